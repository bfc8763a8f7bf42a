import Derived.Test.YtamncanlbopehaaBu
import Derived.Test.YtamncanlbopehaaLcrclinear
set_option linter.unusedSimpArgs false
set_option linter.unusedVariables false
namespace Go.Proofs.Ytamncanlbopehaa
open Go.RowKit

theorem crc_turned {l l' : List Nat} {a t n : Nat} (hl : Bytes l) (hn : l.length = n) (h : Turned l l' (t * 2 ^ a)) (hat : a + 32 ≤ 8 * n) (ht : t < 4294967296) (h0 : t ≠ 0) : crcOf l ≠ crcOf l' := by
  obtain ⟨h1, h2, h3⟩ := h
  refine crcOf_burst hl h2 h1.symm (at' := a) (t := t) (by omega) ht h0 ?_
  rw [h3, ← Nat.xor_assoc, Nat.xor_self, Nat.zero_xor]

set_option maxRecDepth 100000 in
set_option maxHeartbeats 8000000 in
theorem crcBursts_walk (s : ByteArray) (p t : Int) (w : World) (hs : s.size ≤ maxLen) (_ : (Lit.int .i64 p).wf = true) (wt : (Lit.int .u32 t).wf = true) :
    Calls Try.prog 5 #[.string s, .int .i64 p, .int .u32 t] w fun e w' =>
      e = .returned (.bool true) ∧ Below w.heap.size w w' := by
  unfold maxLen at hs
  have tb : 0 ≤ t ∧ t < 4294967296 := by simp [Lit.wf, IntKind.min, IntKind.max, IntKind.bits, IntKind.signed] at wt; omega
  obtain ⟨T, rfl⟩ := Int.eq_ofNat_of_zero_le tb.1
  obtain ⟨n, hn⟩ : ∃ n, min s.size 2000 = n := ⟨_, rfl⟩
  have z1 : (s.extract 0 n).size = n := by rw [ByteArray.size_extract]; omega
  obtain ⟨a, ha⟩ : ∃ a, s.extract 0 n = a := ⟨_, rfl⟩
  rw [ha] at z1
  have hA : crcOf (byts ⟨#[]⟩) = 0 := by kernel_rfl
  have hB : crcOf (byts ⟨#[98]⟩) = 1908338681 := by kernel_rfl
  have H0 := Lib.hid (fun w => crc_ok ⟨#[]⟩ 0 w (by decide) hA)
  have H1 := Lib.hid (fun w => crc_ok ⟨#[98]⟩ 1908338681 w (by decide) hB)
  have qa := alloc_cells
  have qf := alloc_frozens
  clear hA hB wt
  have hcs : (n = s.size ∧ (s.size : Int) ≤ 2000) ∨ (n = 2000 ∧ ¬ (s.size : Int) ≤ 2000) := by omega
  by_cases hT : T = 0
  · subst hT
    rcases hcs with ⟨rfl, k1⟩ | ⟨rfl, k1⟩
    · clear hn z1 ha
      go_enter Try.func5, Try.ntmps5
      go_wp2_with fail
      refine (H0.out _).mono ?_
      rintro e w1 ⟨rfl, hb1⟩
      have z1 := hb1.size
      have c1 := Below.cells hb1
      have f1 := Below.frozens hb1
      try simp only [World.size_alloc, World.size_setCell, World.size_drew] at z1 c1 f1
      go_wp2_with fail
      refine (H1.out _).mono ?_
      rintro e w2 ⟨rfl, hb2⟩
      have z2 := hb2.size
      have c2 := Below.cells hb2
      have f2 := Below.frozens hb2
      try simp only [World.size_alloc, World.size_setCell, World.size_drew] at z2 c2 f2
      go_wp2_with fail
      go_ret
      exact ⟨rfl, (by repeat (first | (with_reducible exact Below.refl _ _) | ((with_reducible refine Below.alloc ?_ ?_ _); rotate_left; (next => ((try dsimp only); (try simp only [World.size_alloc, World.size_setCell, World.size_drew]); omega))) | ((with_reducible refine Below.setCell ?_ ?_ _); rotate_left; (next => ((try dsimp only); (try simp only [World.size_alloc, World.size_setCell, World.size_drew]); omega))) | (with_reducible refine Below.drew ?_) | ((with_reducible refine Below.trans ?_ (Below.mono hb2 ?_)); rotate_left; (next => ((try dsimp only); (try simp only [World.size_alloc, World.size_setCell, World.size_drew]); omega))) | ((with_reducible refine Below.trans ?_ (Below.mono hb1 ?_)); rotate_left; (next => ((try dsimp only); (try simp only [World.size_alloc, World.size_setCell, World.size_drew]); omega)))))⟩
    · clear hn z1 ha
      go_enter Try.func5, Try.ntmps5
      go_wp2_with fail
      refine (H0.out _).mono ?_
      rintro e w1 ⟨rfl, hb1⟩
      have z1 := hb1.size
      have c1 := Below.cells hb1
      have f1 := Below.frozens hb1
      try simp only [World.size_alloc, World.size_setCell, World.size_drew] at z1 c1 f1
      go_wp2_with fail
      refine (H1.out _).mono ?_
      rintro e w2 ⟨rfl, hb2⟩
      have z2 := hb2.size
      have c2 := Below.cells hb2
      have f2 := Below.frozens hb2
      try simp only [World.size_alloc, World.size_setCell, World.size_drew] at z2 c2 f2
      go_wp2_with fail
      go_ret
      exact ⟨rfl, (by repeat (first | (with_reducible exact Below.refl _ _) | ((with_reducible refine Below.alloc ?_ ?_ _); rotate_left; (next => ((try dsimp only); (try simp only [World.size_alloc, World.size_setCell, World.size_drew]); omega))) | ((with_reducible refine Below.setCell ?_ ?_ _); rotate_left; (next => ((try dsimp only); (try simp only [World.size_alloc, World.size_setCell, World.size_drew]); omega))) | (with_reducible refine Below.drew ?_) | ((with_reducible refine Below.trans ?_ (Below.mono hb2 ?_)); rotate_left; (next => ((try dsimp only); (try simp only [World.size_alloc, World.size_setCell, World.size_drew]); omega))) | ((with_reducible refine Below.trans ?_ (Below.mono hb1 ?_)); rotate_left; (next => ((try dsimp only); (try simp only [World.size_alloc, World.size_setCell, World.size_drew]); omega)))))⟩
  · have hT1 : ((T : Int) == 0) = false := by simpa using hT
    by_cases h4 : n < 4
    · rcases hcs with ⟨rfl, k1⟩ | ⟨rfl, k1⟩
      · have k2 : (s.size : Int) < 4 := by omega
        clear hn z1 ha
        go_enter Try.func5, Try.ntmps5
        go_wp2_with fail
        refine (H0.out _).mono ?_
        rintro e w1 ⟨rfl, hb1⟩
        have z1 := hb1.size
        have c1 := Below.cells hb1
        have f1 := Below.frozens hb1
        try simp only [World.size_alloc, World.size_setCell, World.size_drew] at z1 c1 f1
        go_wp2_with fail
        refine (H1.out _).mono ?_
        rintro e w2 ⟨rfl, hb2⟩
        have z2 := hb2.size
        have c2 := Below.cells hb2
        have f2 := Below.frozens hb2
        try simp only [World.size_alloc, World.size_setCell, World.size_drew] at z2 c2 f2
        go_wp2_with fail
        go_ret
        exact ⟨rfl, (by repeat (first | (with_reducible exact Below.refl _ _) | ((with_reducible refine Below.alloc ?_ ?_ _); rotate_left; (next => ((try dsimp only); (try simp only [World.size_alloc, World.size_setCell, World.size_drew]); omega))) | ((with_reducible refine Below.setCell ?_ ?_ _); rotate_left; (next => ((try dsimp only); (try simp only [World.size_alloc, World.size_setCell, World.size_drew]); omega))) | (with_reducible refine Below.drew ?_) | ((with_reducible refine Below.trans ?_ (Below.mono hb2 ?_)); rotate_left; (next => ((try dsimp only); (try simp only [World.size_alloc, World.size_setCell, World.size_drew]); omega))) | ((with_reducible refine Below.trans ?_ (Below.mono hb1 ?_)); rotate_left; (next => ((try dsimp only); (try simp only [World.size_alloc, World.size_setCell, World.size_drew]); omega)))))⟩
      · omega
    · have b1 := within_bd p (n := 8 * (n : Int) - 31) (by omega)
      obtain ⟨A, e_A⟩ : ∃ z_, within p (8 * (n : Int) - 31) = z_ := ⟨_, rfl⟩
      rw [e_A] at b1
      have HA := Lib.hid e_A
      clear e_A
      obtain ⟨A, rfl⟩ := Int.eq_ofNat_of_zero_le b1.1
      have hA1 : A + 32 ≤ 8 * n := by omega
      have hlen : (byts a).length = n := by rw [byts_len, z1]
      obtain ⟨v, hv⟩ : ∃ v, crcOf (byts a) = v := ⟨_, rfl⟩
      have C1 := Lib.hid (fun w => crc_ok a v w (by omega) hv)
      have HBu := Lib.hid (fun w => burst_ok a A T n w z1 (by omega) hA1 (by omega))
      have hne : ∀ l', Turned (byts a) l' (T * 2 ^ A) → v ≠ crcOf l' := fun l' h => by rw [← hv]; exact crc_turned (byts_bytes a) hlen h hA1 (by omega) hT
      have HNe := Lib.hid hne
      have HLen := Lib.hid hlen
      clear hne hlen hv hA1
      rcases hcs with ⟨rfl, k1⟩ | ⟨rfl, k1⟩
      · rw [ext_all] at ha
        subst ha
        have k2 : ¬ (s.size : Int) < 4 := by omega
        clear hn z1
        go_enter Try.func5, Try.ntmps5
        go_wp2_with fail
        refine (H0.out _).mono ?_
        rintro e w1 ⟨rfl, hb1⟩
        have z1 := hb1.size
        have c1 := Below.cells hb1
        have f1 := Below.frozens hb1
        try simp only [World.size_alloc, World.size_setCell, World.size_drew] at z1 c1 f1
        go_wp2_with fail
        refine (H1.out _).mono ?_
        rintro e w2 ⟨rfl, hb2⟩
        have z2 := hb2.size
        have c2 := Below.cells hb2
        have f2 := Below.frozens hb2
        try simp only [World.size_alloc, World.size_setCell, World.size_drew] at z2 c2 f2
        go_wp2_with fail
        refine (within_any p (8 * (s.size : Int) - 31) A _ (by omega) (by omega) HA.out).mono ?_
        rintro e w' ⟨rfl, rfl⟩
        go_wp2_with fail
        refine (C1.out _).mono ?_
        rintro e w3 ⟨rfl, hb3⟩
        have z3 := hb3.size
        have c3 := Below.cells hb3
        have f3 := Below.frozens hb3
        try simp only [World.size_alloc, World.size_setCell, World.size_drew] at z3 c3 f3
        go_wp2_with fail
        refine (HBu.out _).mono ?_
        rintro e w4 ⟨l', rfl, htu, hb4⟩
        have z4 := hb4.size
        have c4 := Below.cells hb4
        have f4 := Below.frozens hb4
        obtain ⟨r, hr⟩ : ∃ r, crcOf l' = r := ⟨_, rfl⟩
        have hne := HNe.out l' htu
        rw [hr] at hne
        have hsz := htu.1
        rw [HLen.out] at hsz
        have hb2 := htu.2.1
        have C5 := Lib.hid (fun w => crc_ok (mkB l') r w (by rw [mkB_size]; omega) (by rw [byts_mkB hb2]; exact hr))
        have nei : ¬ (v : Int) = (r : Int) := by omega
        have ne1 : ((v : Int) == (r : Int)) = false := by simpa using nei
        have ne2 : ((v : Int) != (r : Int)) = true := by simpa using nei
        clear hr hb2 hsz htu
        go_wp2_with fail
        refine (C5.out _).mono ?_
        rintro e w5 ⟨rfl, hb5⟩
        have z5 := hb5.size
        have c5 := Below.cells hb5
        have f5 := Below.frozens hb5
        try simp only [World.size_alloc, World.size_setCell, World.size_drew] at z5 c5 f5
        go_wp2_with fail
        go_ret
        exact ⟨rfl, (by repeat (first | (with_reducible exact Below.refl _ _) | ((with_reducible refine Below.alloc ?_ ?_ _); rotate_left; (next => ((try dsimp only); (try simp only [World.size_alloc, World.size_setCell, World.size_drew]); omega))) | ((with_reducible refine Below.setCell ?_ ?_ _); rotate_left; (next => ((try dsimp only); (try simp only [World.size_alloc, World.size_setCell, World.size_drew]); omega))) | (with_reducible refine Below.drew ?_) | ((with_reducible refine Below.trans ?_ (Below.mono hb5 ?_)); rotate_left; (next => ((try dsimp only); (try simp only [World.size_alloc, World.size_setCell, World.size_drew]); omega))) | ((with_reducible refine Below.trans ?_ (Below.mono hb4 ?_)); rotate_left; (next => ((try dsimp only); (try simp only [World.size_alloc, World.size_setCell, World.size_drew]); omega))) | ((with_reducible refine Below.trans ?_ (Below.mono hb3 ?_)); rotate_left; (next => ((try dsimp only); (try simp only [World.size_alloc, World.size_setCell, World.size_drew]); omega))) | ((with_reducible refine Below.trans ?_ (Below.mono hb2 ?_)); rotate_left; (next => ((try dsimp only); (try simp only [World.size_alloc, World.size_setCell, World.size_drew]); omega))) | ((with_reducible refine Below.trans ?_ (Below.mono hb1 ?_)); rotate_left; (next => ((try dsimp only); (try simp only [World.size_alloc, World.size_setCell, World.size_drew]); omega)))))⟩
      · have k3 : (2000 : Int) ≤ s.size := by omega
        clear hn
        go_enter Try.func5, Try.ntmps5
        go_wp2_with fail
        refine (H0.out _).mono ?_
        rintro e w1 ⟨rfl, hb1⟩
        have z1 := hb1.size
        have c1 := Below.cells hb1
        have f1 := Below.frozens hb1
        try simp only [World.size_alloc, World.size_setCell, World.size_drew] at z1 c1 f1
        go_wp2_with fail
        refine (H1.out _).mono ?_
        rintro e w2 ⟨rfl, hb2⟩
        have z2 := hb2.size
        have c2 := Below.cells hb2
        have f2 := Below.frozens hb2
        try simp only [World.size_alloc, World.size_setCell, World.size_drew] at z2 c2 f2
        go_wp2_with fail
        refine (within_any p (8 * ((2000 : Nat) : Int) - 31) A _ (by omega) (by omega) HA.out).mono ?_
        rintro e w' ⟨rfl, rfl⟩
        go_wp2_with fail
        refine (C1.out _).mono ?_
        rintro e w3 ⟨rfl, hb3⟩
        have z3 := hb3.size
        have c3 := Below.cells hb3
        have f3 := Below.frozens hb3
        try simp only [World.size_alloc, World.size_setCell, World.size_drew] at z3 c3 f3
        go_wp2_with fail
        refine (HBu.out _).mono ?_
        rintro e w4 ⟨l', rfl, htu, hb4⟩
        have z4 := hb4.size
        have c4 := Below.cells hb4
        have f4 := Below.frozens hb4
        obtain ⟨r, hr⟩ : ∃ r, crcOf l' = r := ⟨_, rfl⟩
        have hne := HNe.out l' htu
        rw [hr] at hne
        have hsz := htu.1
        rw [HLen.out] at hsz
        have hb2 := htu.2.1
        have C5 := Lib.hid (fun w => crc_ok (mkB l') r w (by rw [mkB_size]; omega) (by rw [byts_mkB hb2]; exact hr))
        have nei : ¬ (v : Int) = (r : Int) := by omega
        have ne1 : ((v : Int) == (r : Int)) = false := by simpa using nei
        have ne2 : ((v : Int) != (r : Int)) = true := by simpa using nei
        clear hr hb2 hsz htu
        go_wp2_with fail
        refine (C5.out _).mono ?_
        rintro e w5 ⟨rfl, hb5⟩
        have z5 := hb5.size
        have c5 := Below.cells hb5
        have f5 := Below.frozens hb5
        try simp only [World.size_alloc, World.size_setCell, World.size_drew] at z5 c5 f5
        go_wp2_with fail
        go_ret
        exact ⟨rfl, (by repeat (first | (with_reducible exact Below.refl _ _) | ((with_reducible refine Below.alloc ?_ ?_ _); rotate_left; (next => ((try dsimp only); (try simp only [World.size_alloc, World.size_setCell, World.size_drew]); omega))) | ((with_reducible refine Below.setCell ?_ ?_ _); rotate_left; (next => ((try dsimp only); (try simp only [World.size_alloc, World.size_setCell, World.size_drew]); omega))) | (with_reducible refine Below.drew ?_) | ((with_reducible refine Below.trans ?_ (Below.mono hb5 ?_)); rotate_left; (next => ((try dsimp only); (try simp only [World.size_alloc, World.size_setCell, World.size_drew]); omega))) | ((with_reducible refine Below.trans ?_ (Below.mono hb4 ?_)); rotate_left; (next => ((try dsimp only); (try simp only [World.size_alloc, World.size_setCell, World.size_drew]); omega))) | ((with_reducible refine Below.trans ?_ (Below.mono hb3 ?_)); rotate_left; (next => ((try dsimp only); (try simp only [World.size_alloc, World.size_setCell, World.size_drew]); omega))) | ((with_reducible refine Below.trans ?_ (Below.mono hb2 ?_)); rotate_left; (next => ((try dsimp only); (try simp only [World.size_alloc, World.size_setCell, World.size_drew]); omega))) | ((with_reducible refine Below.trans ?_ (Below.mono hb1 ?_)); rotate_left; (next => ((try dsimp only); (try simp only [World.size_alloc, World.size_setCell, World.size_drew]); omega)))))⟩
end Go.Proofs.Ytamncanlbopehaa
