import Derived.Test.YtamncanlbopehaaBl
import Derived.Test.YtamncanlbopehaaLbeatsize
set_option linter.unusedSimpArgs false
set_option linter.unusedVariables false
namespace Go.Proofs.Ytamncanlbopehaa
open Go.RowKit
theorem str_add' {x y z : ByteArray} (h : x.size + y.size ≤ 9223372036854775807) (e : x ++ y = z) : Op.stringOp .add x y = pure (.string z) := by
  subst e
  unfold Op.stringOp
  rw [if_neg (by simp only [IntKind.max, IntKind.bits, IntKind.signed]; omega)]
theorem byts_app (a b : ByteArray) : byts (a ++ b) = byts a ++ byts b := by
  unfold byts
  rw [ByteArray.data_append, Array.toList_append, List.map_append]
theorem toList_ne {s t : ByteArray} (h : s ≠ t) : (s.toList == t.toList) = false ∧ ¬ s.toList = t.toList := by
  have : ¬ s.toList = t.toList := fun e => h (by
    rw [ByteArray.toList_eq, ByteArray.toList_eq] at e
    exact ByteArray.ext (Array.toList_inj.1 e))
  exact ⟨by simpa using this, this⟩
theorem nil_of_size {s : ByteArray} (h : s.size = 0) : s = ⟨#[]⟩ := by
  apply ByteArray.ext
  exact Array.eq_empty_of_size_eq_zero h
set_option maxRecDepth 100000 in
set_option maxHeartbeats 16000000 in
theorem beatBack_walk (s : ByteArray) (i q : Int) (t : ByteArray) (j r : Int) (k : Int) (m : ByteArray) (w : World) (hs : s.size ≤ maxLen) (_ : (Lit.int .i64 i).wf = true) (_ : (Lit.int .i64 q).wf = true) (ht : t.size ≤ maxLen) (_ : (Lit.int .i64 j).wf = true) (_ : (Lit.int .i64 r).wf = true)
    (_ : (Lit.int .i64 k).wf = true) (hm : m.size ≤ 140737488351232) :
    Calls Try.prog 13 #[.agg #[.string s, .int .i64 i, .int .i64 q], .agg #[.string t, .int .i64 j, .int .i64 r], .int .i64 k, .string m] w fun e w' =>
      e = .returned (.bool true) ∧ Below w.heap.size w w' := by
  have H0 := Lib.hid (fun w => beatBegun_ok w)
  have qa := alloc_cells
  have qf := alloc_frozens
  rcases encode_cases s i q hs with ⟨I, Q, rfl, rfl, hb, he⟩ | ⟨n, hn, he⟩
  · have hz : (mkB (encL (byts s) I Q)).size = 14 + s.size := by rw [mkB_size, encL_len, byts_len]
    have hs8 : s.size ≤ 8 := by have := hb.1.2.1; rwa [byts_len] at this
    have hd := fun w => decode_enc s I Q w hb
    have hinj := fun J R (hb' : BOK (byts t) J R) => encL_inj hb hb'
    obtain ⟨x, hx⟩ : ∃ x, within k (14 + s.size : Nat) = x := ⟨_, rfl⟩
    have hxb := within_bd k (n := ((14 + s.size : Nat) : Int)) (by omega)
    rw [hx] at hxb
    obtain ⟨X, rfl⟩ := Int.eq_ofNat_of_zero_le hxb.1
    have hXlt : X < 14 + s.size := by omega
    have hd2 : ∀ w, Calls Try.prog 34 #[.string ((mkB (encL (byts s) I Q)).extract 0 X)] w fun e w' => e = .returned (.tuple #[.agg #[.string ⟨#[]⟩, .int .i64 0, .int .i64 0], .int .i64 8]) ∧ Below w.heap.size w w' := fun w => by
      refine decode_bad _ 8 w (by rw [ByteArray.size_extract]; omega) ?_ (by omega)
      rw [byts_ext, List.drop_zero, byts_mkB (encL_bytes hb.1)]
      exact dec_cut hb.1 (by rw [byts_len]; exact hXlt)
    have hd3 : ∃ (zs : ByteArray) (zi zq : Int) (n3 : Nat), (m.size = 0 ∨ n3 = 3) ∧ ∀ w, Calls Try.prog 34 #[.string (mkB (encL (byts s) I Q) ++ m)] w fun e w' => e = .returned (.tuple #[.agg #[.string zs, .int .i64 zi, .int .i64 zq], .int .i64 n3]) ∧ Below w.heap.size w w' := by
      by_cases c : m.size = 0
      · refine ⟨s, I, Q, 0, .inl c, fun w => ?_⟩
        rw [nil_of_size c, show mkB (encL (byts s) I Q) ++ ⟨#[]⟩ = mkB (encL (byts s) I Q) from by apply ByteArray.ext; rw [ByteArray.data_append]; simp]
        exact hd w
      · refine ⟨⟨#[]⟩, 0, 0, 3, .inr rfl, fun w => decode_bad _ 3 w (by rw [ByteArray.size_append, hz]; omega) ?_ (by omega)⟩
        rw [byts_app, byts_mkB (encL_bytes hb.1)]
        exact dec_more hb.1 (fun e => c (by rw [← byts_len, e]; rfl))
    obtain ⟨zs, zi, zq, n3, hn3, hd3⟩ := hd3
    have hbI := encL_bytes (i := I) (s := Q) hb.1
    obtain ⟨S, hS⟩ : ∃ S, mkB (encL (byts s) I Q) = S := ⟨_, rfl⟩
    rw [hS] at hz he hd hd2 hd3
    obtain ⟨S2, hS2⟩ : ∃ S2, S ++ m = S2 := ⟨_, rfl⟩
    have hadd := str_add' (x := S) (y := m) (by omega) hS2
    rw [hS2] at hd3
    have HD := Lib.hid hd
    have HD2 := Lib.hid hd2
    have HD3 := Lib.hid hd3
    have HE := Lib.hid he
    have HX := Lib.hid hx
    have x1 : (0 : Int) ≤ X := by omega
    have x2 : (X : Int) ≤ S.size := by omega
    have x3 : (1 : Int) ≤ S.size := by omega
    have x4 : ¬ (S.size : Int) < 1 := by omega
    have x5 : (1 : Int) < S.size := by omega
    have x6 : (S.size : Int) ≤ 22 := by omega
    have HZ := Lib.hid hz
    have hSz : (S.size : Int) = ((14 + s.size : Nat) : Int) := by omega
    have HSZ := Lib.hid hSz
    have hmc : (m = ⟨#[]⟩) ∨ (n3 = 3 ∧ ¬ m.toList = [] ∧ m.toList.isEmpty = false) := by
      by_cases c : m.size = 0
      · exact .inl (nil_of_size c)
      · exact .inr ⟨by omega, not_nil (by omega), not_empty (by omega)⟩
    clear hS2 hx hSz hz hn3 hd hd2 hd3 he
    rcases encode_cases t j r ht with ⟨J, R, rfl, rfl, hb', he'⟩ | ⟨k', hk', he'⟩
    · have hfin : (s = t ∧ I = J ∧ Q = R) ∨ (¬ (s = t ∧ I = J ∧ Q = R) ∧ S ≠ mkB (encL (byts t) J R)) := by
        by_cases c : s = t ∧ I = J ∧ Q = R
        · exact .inl c
        · refine .inr ⟨c, fun e => c ?_⟩
          rw [← hS] at e
          have e' : encL (byts s) I Q = encL (byts t) J R := by rw [← byts_mkB hbI, e, byts_mkB (encL_bytes hb'.1)]
          obtain ⟨g1, g2⟩ := hinj J R hb' e'
          exact ⟨by rw [← mkB_byts s, g1, mkB_byts], g2⟩
      rcases hfin with ⟨rfl, rfl, rfl⟩ | ⟨hne, hp⟩
      · rw [hS] at he'
        have HE' := Lib.hid he'
        clear hb' hinj hb hbI hS he'
        rcases hmc with rfl | ⟨rfl, m1, m2⟩
        all_goals
          go_enter Try.func13, Try.ntmps13
          go_wp2_with fail
          refine (H0.out _).mono ?_
          rintro e w1 ⟨rfl, hb1⟩
          have z1 := hb1.size
          have c1 := Below.cells hb1
          have f1 := Below.frozens hb1
          try simp only [World.size_alloc, World.size_setCell, World.size_drew] at z1 c1 f1
          go_wp2_with fail
          refine (HE.out _).mono ?_
          rintro e w2 ⟨rfl, hb2⟩
          have z2 := hb2.size
          have c2 := Below.cells hb2
          have f2 := Below.frozens hb2
          try simp only [World.size_alloc, World.size_setCell, World.size_drew] at z2 c2 f2
          go_wp2_with fail
          refine (HD.out _).mono ?_
          rintro e w3 ⟨rfl, hb3⟩
          have z3 := hb3.size
          have c3 := Below.cells hb3
          have f3 := Below.frozens hb3
          try simp only [World.size_alloc, World.size_setCell, World.size_drew] at z3 c3 f3
          go_wp2_with fail
          refine (within_any k (max 1 (S.size : Int)) X _ (by omega) (by omega) (by rw [show max 1 (S.size : Int) = S.size from by omega, HSZ.out]; exact HX.out)).mono ?_
          rintro e w' ⟨rfl, rfl⟩
          go_wp2_with fail
          refine (HD2.out _).mono ?_
          rintro e w4 ⟨rfl, hb4⟩
          have z4 := hb4.size
          have c4 := Below.cells hb4
          have f4 := Below.frozens hb4
          try simp only [World.size_alloc, World.size_setCell, World.size_drew] at z4 c4 f4
          go_wp2_with fail
          refine (HD3.out _).mono ?_
          rintro e w5 ⟨rfl, hb5⟩
          have z5 := hb5.size
          have c5 := Below.cells hb5
          have f5 := Below.frozens hb5
          try simp only [World.size_alloc, World.size_setCell, World.size_drew] at z5 c5 f5
          go_wp2_with fail
          refine (HE'.out _).mono ?_
          rintro e w6 ⟨rfl, hb6⟩
          have z6 := hb6.size
          have c6 := Below.cells hb6
          have f6 := Below.frozens hb6
          try simp only [World.size_alloc, World.size_setCell, World.size_drew] at z6 c6 f6
          go_wp2_with fail
          go_ret
          exact ⟨rfl, (by repeat (first | (with_reducible exact Below.refl _ _) | ((with_reducible refine Below.alloc ?_ ?_ _); rotate_left; (next => ((try dsimp only); (try simp only [World.size_alloc, World.size_setCell, World.size_drew]); omega))) | ((with_reducible refine Below.setCell ?_ ?_ _); rotate_left; (next => ((try dsimp only); (try simp only [World.size_alloc, World.size_setCell, World.size_drew]); omega))) | (with_reducible refine Below.drew ?_) | ((with_reducible refine Below.trans ?_ (Below.mono hb6 ?_)); rotate_left; (next => ((try dsimp only); (try simp only [World.size_alloc, World.size_setCell, World.size_drew]); omega))) | ((with_reducible refine Below.trans ?_ (Below.mono hb5 ?_)); rotate_left; (next => ((try dsimp only); (try simp only [World.size_alloc, World.size_setCell, World.size_drew]); omega))) | ((with_reducible refine Below.trans ?_ (Below.mono hb4 ?_)); rotate_left; (next => ((try dsimp only); (try simp only [World.size_alloc, World.size_setCell, World.size_drew]); omega))) | ((with_reducible refine Below.trans ?_ (Below.mono hb3 ?_)); rotate_left; (next => ((try dsimp only); (try simp only [World.size_alloc, World.size_setCell, World.size_drew]); omega))) | ((with_reducible refine Below.trans ?_ (Below.mono hb2 ?_)); rotate_left; (next => ((try dsimp only); (try simp only [World.size_alloc, World.size_setCell, World.size_drew]); omega))) | ((with_reducible refine Below.trans ?_ (Below.mono hb1 ?_)); rotate_left; (next => ((try dsimp only); (try simp only [World.size_alloc, World.size_setCell, World.size_drew]); omega)))))⟩
      · obtain ⟨T, hT⟩ : ∃ S, mkB (encL (byts t) J R) = S := ⟨_, rfl⟩
        rw [hT] at he' hp
        have HE' := Lib.hid he'
        obtain ⟨hp1, hp2⟩ := toList_ne hp
        clear hT hb' hinj hb hbI hS he' hp
        have hc : ((s.toList == t.toList) = false ∧ ¬ s.toList = t.toList) ∨ (s = t ∧ ¬ I = J) ∨ (s = t ∧ I = J ∧ ¬ Q = R) := by
          by_cases c1 : s = t
          · by_cases c2 : I = J
            · exact .inr (.inr ⟨c1, c2, fun c3 => hne ⟨c1, c2, c3⟩⟩)
            · exact .inr (.inl ⟨c1, c2⟩)
          · exact .inl (toList_ne c1)
        clear hne
        rcases hmc with rfl | ⟨rfl, m1, m2⟩
        all_goals
          rcases hc with ⟨c0, c1⟩ | ⟨rfl, c1⟩ | ⟨rfl, rfl, c1⟩
          all_goals
            go_enter Try.func13, Try.ntmps13
            go_wp2_with fail
            refine (H0.out _).mono ?_
            rintro e w1 ⟨rfl, hb1⟩
            have z1 := hb1.size
            have c1 := Below.cells hb1
            have f1 := Below.frozens hb1
            try simp only [World.size_alloc, World.size_setCell, World.size_drew] at z1 c1 f1
            go_wp2_with fail
            refine (HE.out _).mono ?_
            rintro e w2 ⟨rfl, hb2⟩
            have z2 := hb2.size
            have c2 := Below.cells hb2
            have f2 := Below.frozens hb2
            try simp only [World.size_alloc, World.size_setCell, World.size_drew] at z2 c2 f2
            go_wp2_with fail
            refine (HD.out _).mono ?_
            rintro e w3 ⟨rfl, hb3⟩
            have z3 := hb3.size
            have c3 := Below.cells hb3
            have f3 := Below.frozens hb3
            try simp only [World.size_alloc, World.size_setCell, World.size_drew] at z3 c3 f3
            go_wp2_with fail
            refine (within_any k (max 1 (S.size : Int)) X _ (by omega) (by omega) (by rw [show max 1 (S.size : Int) = S.size from by omega, HSZ.out]; exact HX.out)).mono ?_
            rintro e w' ⟨rfl, rfl⟩
            go_wp2_with fail
            refine (HD2.out _).mono ?_
            rintro e w4 ⟨rfl, hb4⟩
            have z4 := hb4.size
            have c4 := Below.cells hb4
            have f4 := Below.frozens hb4
            try simp only [World.size_alloc, World.size_setCell, World.size_drew] at z4 c4 f4
            go_wp2_with fail
            refine (HD3.out _).mono ?_
            rintro e w5 ⟨rfl, hb5⟩
            have z5 := hb5.size
            have c5 := Below.cells hb5
            have f5 := Below.frozens hb5
            try simp only [World.size_alloc, World.size_setCell, World.size_drew] at z5 c5 f5
            go_wp2_with fail
            refine (HE'.out _).mono ?_
            rintro e w6 ⟨rfl, hb6⟩
            have z6 := hb6.size
            have c6 := Below.cells hb6
            have f6 := Below.frozens hb6
            try simp only [World.size_alloc, World.size_setCell, World.size_drew] at z6 c6 f6
            go_wp2_with fail
            go_ret
            exact ⟨rfl, (by repeat (first | (with_reducible exact Below.refl _ _) | ((with_reducible refine Below.alloc ?_ ?_ _); rotate_left; (next => ((try dsimp only); (try simp only [World.size_alloc, World.size_setCell, World.size_drew]); omega))) | ((with_reducible refine Below.setCell ?_ ?_ _); rotate_left; (next => ((try dsimp only); (try simp only [World.size_alloc, World.size_setCell, World.size_drew]); omega))) | (with_reducible refine Below.drew ?_) | ((with_reducible refine Below.trans ?_ (Below.mono hb6 ?_)); rotate_left; (next => ((try dsimp only); (try simp only [World.size_alloc, World.size_setCell, World.size_drew]); omega))) | ((with_reducible refine Below.trans ?_ (Below.mono hb5 ?_)); rotate_left; (next => ((try dsimp only); (try simp only [World.size_alloc, World.size_setCell, World.size_drew]); omega))) | ((with_reducible refine Below.trans ?_ (Below.mono hb4 ?_)); rotate_left; (next => ((try dsimp only); (try simp only [World.size_alloc, World.size_setCell, World.size_drew]); omega))) | ((with_reducible refine Below.trans ?_ (Below.mono hb3 ?_)); rotate_left; (next => ((try dsimp only); (try simp only [World.size_alloc, World.size_setCell, World.size_drew]); omega))) | ((with_reducible refine Below.trans ?_ (Below.mono hb2 ?_)); rotate_left; (next => ((try dsimp only); (try simp only [World.size_alloc, World.size_setCell, World.size_drew]); omega))) | ((with_reducible refine Below.trans ?_ (Below.mono hb1 ?_)); rotate_left; (next => ((try dsimp only); (try simp only [World.size_alloc, World.size_setCell, World.size_drew]); omega)))))⟩
    · have HE' := Lib.hid he'
      have hk2 : (k' == 0) = false := by simp; omega
      have hk3 : (k' != 0) = true := by simp; omega
      clear he' hk' hb hinj hbI hS
      rcases hmc with rfl | ⟨rfl, m1, m2⟩
      all_goals
        go_enter Try.func13, Try.ntmps13
        go_wp2_with fail
        refine (H0.out _).mono ?_
        rintro e w1 ⟨rfl, hb1⟩
        have z1 := hb1.size
        have c1 := Below.cells hb1
        have f1 := Below.frozens hb1
        try simp only [World.size_alloc, World.size_setCell, World.size_drew] at z1 c1 f1
        go_wp2_with fail
        refine (HE.out _).mono ?_
        rintro e w2 ⟨rfl, hb2⟩
        have z2 := hb2.size
        have c2 := Below.cells hb2
        have f2 := Below.frozens hb2
        try simp only [World.size_alloc, World.size_setCell, World.size_drew] at z2 c2 f2
        go_wp2_with fail
        refine (HD.out _).mono ?_
        rintro e w3 ⟨rfl, hb3⟩
        have z3 := hb3.size
        have c3 := Below.cells hb3
        have f3 := Below.frozens hb3
        try simp only [World.size_alloc, World.size_setCell, World.size_drew] at z3 c3 f3
        go_wp2_with fail
        refine (within_any k (max 1 (S.size : Int)) X _ (by omega) (by omega) (by rw [show max 1 (S.size : Int) = S.size from by omega, HSZ.out]; exact HX.out)).mono ?_
        rintro e w' ⟨rfl, rfl⟩
        go_wp2_with fail
        refine (HD2.out _).mono ?_
        rintro e w4 ⟨rfl, hb4⟩
        have z4 := hb4.size
        have c4 := Below.cells hb4
        have f4 := Below.frozens hb4
        try simp only [World.size_alloc, World.size_setCell, World.size_drew] at z4 c4 f4
        go_wp2_with fail
        refine (HD3.out _).mono ?_
        rintro e w5 ⟨rfl, hb5⟩
        have z5 := hb5.size
        have c5 := Below.cells hb5
        have f5 := Below.frozens hb5
        try simp only [World.size_alloc, World.size_setCell, World.size_drew] at z5 c5 f5
        go_wp2_with fail
        refine (HE'.out _).mono ?_
        rintro e w6 ⟨rfl, hb6⟩
        have z6 := hb6.size
        have c6 := Below.cells hb6
        have f6 := Below.frozens hb6
        try simp only [World.size_alloc, World.size_setCell, World.size_drew] at z6 c6 f6
        go_wp2_with fail
        go_ret
        exact ⟨rfl, (by repeat (first | (with_reducible exact Below.refl _ _) | ((with_reducible refine Below.alloc ?_ ?_ _); rotate_left; (next => ((try dsimp only); (try simp only [World.size_alloc, World.size_setCell, World.size_drew]); omega))) | ((with_reducible refine Below.setCell ?_ ?_ _); rotate_left; (next => ((try dsimp only); (try simp only [World.size_alloc, World.size_setCell, World.size_drew]); omega))) | (with_reducible refine Below.drew ?_) | ((with_reducible refine Below.trans ?_ (Below.mono hb6 ?_)); rotate_left; (next => ((try dsimp only); (try simp only [World.size_alloc, World.size_setCell, World.size_drew]); omega))) | ((with_reducible refine Below.trans ?_ (Below.mono hb5 ?_)); rotate_left; (next => ((try dsimp only); (try simp only [World.size_alloc, World.size_setCell, World.size_drew]); omega))) | ((with_reducible refine Below.trans ?_ (Below.mono hb4 ?_)); rotate_left; (next => ((try dsimp only); (try simp only [World.size_alloc, World.size_setCell, World.size_drew]); omega))) | ((with_reducible refine Below.trans ?_ (Below.mono hb3 ?_)); rotate_left; (next => ((try dsimp only); (try simp only [World.size_alloc, World.size_setCell, World.size_drew]); omega))) | ((with_reducible refine Below.trans ?_ (Below.mono hb2 ?_)); rotate_left; (next => ((try dsimp only); (try simp only [World.size_alloc, World.size_setCell, World.size_drew]); omega))) | ((with_reducible refine Below.trans ?_ (Below.mono hb1 ?_)); rotate_left; (next => ((try dsimp only); (try simp only [World.size_alloc, World.size_setCell, World.size_drew]); omega)))))⟩
  · have hk2 : (n == 0) = false := by simp; omega
    have hk3 : (n != 0) = true := by simp; omega
    have HE := Lib.hid he
    clear he hn
    go_enter Try.func13, Try.ntmps13
    go_wp2_with fail
    refine (H0.out _).mono ?_
    rintro e w1 ⟨rfl, hb1⟩
    have z1 := hb1.size
    have c1 := Below.cells hb1
    have f1 := Below.frozens hb1
    try simp only [World.size_alloc, World.size_setCell, World.size_drew] at z1 c1 f1
    go_wp2_with fail
    refine (HE.out _).mono ?_
    rintro e w2 ⟨rfl, hb2⟩
    have z2 := hb2.size
    have c2 := Below.cells hb2
    have f2 := Below.frozens hb2
    try simp only [World.size_alloc, World.size_setCell, World.size_drew] at z2 c2 f2
    go_wp2_with fail
    go_ret
    exact ⟨rfl, (by repeat (first | (with_reducible exact Below.refl _ _) | ((with_reducible refine Below.alloc ?_ ?_ _); rotate_left; (next => ((try dsimp only); (try simp only [World.size_alloc, World.size_setCell, World.size_drew]); omega))) | ((with_reducible refine Below.setCell ?_ ?_ _); rotate_left; (next => ((try dsimp only); (try simp only [World.size_alloc, World.size_setCell, World.size_drew]); omega))) | (with_reducible refine Below.drew ?_) | ((with_reducible refine Below.trans ?_ (Below.mono hb2 ?_)); rotate_left; (next => ((try dsimp only); (try simp only [World.size_alloc, World.size_setCell, World.size_drew]); omega))) | ((with_reducible refine Below.trans ?_ (Below.mono hb1 ?_)); rotate_left; (next => ((try dsimp only); (try simp only [World.size_alloc, World.size_setCell, World.size_drew]); omega)))))⟩
end Go.Proofs.Ytamncanlbopehaa
