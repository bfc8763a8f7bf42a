import Derived.Test.YtamncanlbopehaaBl
import Derived.Test.YtamncanlbopehaaShelf
set_option linter.unusedSimpArgs false
set_option linter.unusedVariables false
namespace Go.Proofs.Ytamncanlbopehaa
open Go.RowKit
theorem mkB_ne {l l' : List Nat} (hl : Bytes l) (hl' : Bytes l') (h : l ≠ l') : mkB l ≠ mkB l' := fun e => h (by rw [← byts_mkB hl, ← byts_mkB hl', e])
theorem no_prefix {id id' : List Nat} {i i' s s' : Nat} (h : BOK id i s) (h' : BOK id' i' s') (hne : ¬ (id = id' ∧ i = i' ∧ s = s')) : Lib.hasPrefix (mkB (encL id' i' s')).data.toList (mkB (encL id i s)).data.toList = false := by
  rw [Bool.eq_false_iff]
  intro hp
  unfold Lib.hasPrefix at hp
  rw [List.isPrefixOf_iff_prefix] at hp
  refine hne (enc_prefix h h' ?_)
  have := hp.map UInt8.toNat
  have e1 := byts_mkB (encL_bytes (id := id) (i := i) (s := s) h.1)
  have e2 := byts_mkB (encL_bytes (id := id') (i := i') (s := s') h'.1)
  unfold byts at e1 e2
  rwa [e1, e2] at this
set_option maxRecDepth 100000 in
set_option maxHeartbeats 8000000 in
theorem beatSize_walk (s : ByteArray) (i q : Int) (t : ByteArray) (j r : Int) (w : World) (hs : s.size ≤ maxLen) (_ : (Lit.int .i64 i).wf = true) (_ : (Lit.int .i64 q).wf = true) (ht : t.size ≤ maxLen) (_ : (Lit.int .i64 j).wf = true) (_ : (Lit.int .i64 r).wf = true) :
    Calls Try.prog 12 #[.agg #[.string s, .int .i64 i, .int .i64 q], .agg #[.string t, .int .i64 j, .int .i64 r]] w fun e w' =>
      e = .returned (.bool true) ∧ Below w.heap.size w w' := by
  have H0 := Lib.hid (fun w => beatBegun_ok w)
  have qa := alloc_cells
  have qf := alloc_frozens
  rcases encode_cases s i q hs with ⟨I, Q, rfl, rfl, hb, he⟩ | ⟨k, hk, he⟩
  · have hz : (mkB (encL (byts s) I Q)).size = 14 + s.size := by rw [mkB_size, encL_len, byts_len]
    have hs8 : s.size ≤ 8 := by have := hb.1.2.1; rwa [byts_len] at this
    have hw : IntKind.i64.wrap (14 + (s.size : Int)) = ((14 + s.size : Nat) : Int) := IntWalk.i64_in _ (by omega)
    rcases encode_cases t j r ht with ⟨J, R, rfl, rfl, hb', he'⟩ | ⟨k', hk', he'⟩
    · have hnp := fun hne => no_prefix hb hb' hne
      obtain ⟨S, hS⟩ : ∃ S, mkB (encL (byts s) I Q) = S := ⟨_, rfl⟩
      obtain ⟨T, hT⟩ : ∃ S, mkB (encL (byts t) J R) = S := ⟨_, rfl⟩
      rw [hS] at hz he hnp
      rw [hT] at he' hnp
      have HE := Lib.hid he
      have HE' := Lib.hid he'
      have hfin : (s = t ∧ I = J ∧ Q = R) ∨ (¬ (s = t ∧ I = J ∧ Q = R) ∧ Lib.hasPrefix T.data.toList S.data.toList = false) := by
        by_cases c : s = t ∧ I = J ∧ Q = R
        · exact .inl c
        · refine .inr ⟨c, hnp fun h => c ⟨?_, h.2⟩⟩
          rw [← mkB_byts s, h.1, mkB_byts]
      clear he he' hS hT hb hb' hnp
      have hsz1 : ((S.size : Int) == ((14 + s.size : Nat) : Int)) = true := by simp; omega
      rcases hfin with ⟨rfl, rfl, rfl⟩ | ⟨hne, hp⟩
      · go_enter Try.func12, Try.ntmps12
        go_wp2_with fail
        refine (H0.out _).mono ?_
        rintro e w1 ⟨rfl, hb1⟩
        have z1 := hb1.size
        have c1 := Below.cells hb1
        have f1 := Below.frozens hb1
        try simp only [World.size_alloc, World.size_setCell, World.size_drew] at z1 c1 f1
        go_wp2_with fail
        refine (HE.out _).mono ?_
        rintro e w2 ⟨rfl, hb2⟩
        have z2 := hb2.size
        have c2 := Below.cells hb2
        have f2 := Below.frozens hb2
        try simp only [World.size_alloc, World.size_setCell, World.size_drew] at z2 c2 f2
        go_wp2_with fail
        refine (HE'.out _).mono ?_
        rintro e w3 ⟨rfl, hb3⟩
        have z3 := hb3.size
        have c3 := Below.cells hb3
        have f3 := Below.frozens hb3
        try simp only [World.size_alloc, World.size_setCell, World.size_drew] at z3 c3 f3
        go_wp2_with fail
        go_ret
        exact ⟨rfl, (by repeat (first | (with_reducible exact Below.refl _ _) | ((with_reducible refine Below.alloc ?_ ?_ _); rotate_left; (next => ((try dsimp only); (try simp only [World.size_alloc, World.size_setCell, World.size_drew]); omega))) | ((with_reducible refine Below.setCell ?_ ?_ _); rotate_left; (next => ((try dsimp only); (try simp only [World.size_alloc, World.size_setCell, World.size_drew]); omega))) | (with_reducible refine Below.drew ?_) | ((with_reducible refine Below.trans ?_ (Below.mono hb3 ?_)); rotate_left; (next => ((try dsimp only); (try simp only [World.size_alloc, World.size_setCell, World.size_drew]); omega))) | ((with_reducible refine Below.trans ?_ (Below.mono hb2 ?_)); rotate_left; (next => ((try dsimp only); (try simp only [World.size_alloc, World.size_setCell, World.size_drew]); omega))) | ((with_reducible refine Below.trans ?_ (Below.mono hb1 ?_)); rotate_left; (next => ((try dsimp only); (try simp only [World.size_alloc, World.size_setCell, World.size_drew]); omega)))))⟩
      · have HP := Lib.hid (fun w => hp ▸ Try.strings_HasPrefix T S w)
        clear hp hne
        go_enter Try.func12, Try.ntmps12
        go_wp2_with fail
        refine (H0.out _).mono ?_
        rintro e w1 ⟨rfl, hb1⟩
        have z1 := hb1.size
        have c1 := Below.cells hb1
        have f1 := Below.frozens hb1
        try simp only [World.size_alloc, World.size_setCell, World.size_drew] at z1 c1 f1
        go_wp2_with fail
        refine (HE.out _).mono ?_
        rintro e w2 ⟨rfl, hb2⟩
        have z2 := hb2.size
        have c2 := Below.cells hb2
        have f2 := Below.frozens hb2
        try simp only [World.size_alloc, World.size_setCell, World.size_drew] at z2 c2 f2
        go_wp2_with fail
        refine (HE'.out _).mono ?_
        rintro e w3 ⟨rfl, hb3⟩
        have z3 := hb3.size
        have c3 := Below.cells hb3
        have f3 := Below.frozens hb3
        try simp only [World.size_alloc, World.size_setCell, World.size_drew] at z3 c3 f3
        go_wp2_with fail
        all_goals
          (try (refine (HP.out _).mono ?_
                rintro e w4 ⟨rfl, h4⟩
                subst h4
                go_wp2_with fail))
          go_ret
          exact ⟨rfl, (by repeat (first | (with_reducible exact Below.refl _ _) | ((with_reducible refine Below.alloc ?_ ?_ _); rotate_left; (next => ((try dsimp only); (try simp only [World.size_alloc, World.size_setCell, World.size_drew]); omega))) | ((with_reducible refine Below.setCell ?_ ?_ _); rotate_left; (next => ((try dsimp only); (try simp only [World.size_alloc, World.size_setCell, World.size_drew]); omega))) | (with_reducible refine Below.drew ?_) | ((with_reducible refine Below.trans ?_ (Below.mono hb3 ?_)); rotate_left; (next => ((try dsimp only); (try simp only [World.size_alloc, World.size_setCell, World.size_drew]); omega))) | ((with_reducible refine Below.trans ?_ (Below.mono hb2 ?_)); rotate_left; (next => ((try dsimp only); (try simp only [World.size_alloc, World.size_setCell, World.size_drew]); omega))) | ((with_reducible refine Below.trans ?_ (Below.mono hb1 ?_)); rotate_left; (next => ((try dsimp only); (try simp only [World.size_alloc, World.size_setCell, World.size_drew]); omega)))))⟩
    · have HE := Lib.hid he
      have HE' := Lib.hid he'
      have hk2 : (k' == 0) = false := by simp; omega
      have hk3 : (k' != 0) = true := by simp; omega
      clear he he' hk' hb
      obtain ⟨S, hS⟩ : ∃ S, mkB (encL (byts s) I Q) = S := ⟨_, rfl⟩
      rw [hS] at HE hz
      clear hS
      go_enter Try.func12, Try.ntmps12
      go_wp2_with fail
      refine (H0.out _).mono ?_
      rintro e w1 ⟨rfl, hb1⟩
      have z1 := hb1.size
      have c1 := Below.cells hb1
      have f1 := Below.frozens hb1
      try simp only [World.size_alloc, World.size_setCell, World.size_drew] at z1 c1 f1
      go_wp2_with fail
      refine (HE.out _).mono ?_
      rintro e w2 ⟨rfl, hb2⟩
      have z2 := hb2.size
      have c2 := Below.cells hb2
      have f2 := Below.frozens hb2
      try simp only [World.size_alloc, World.size_setCell, World.size_drew] at z2 c2 f2
      go_wp2_with fail
      refine (HE'.out _).mono ?_
      rintro e w3 ⟨rfl, hb3⟩
      have z3 := hb3.size
      have c3 := Below.cells hb3
      have f3 := Below.frozens hb3
      try simp only [World.size_alloc, World.size_setCell, World.size_drew] at z3 c3 f3
      go_wp2_with fail
      go_ret
      exact ⟨rfl, (by repeat (first | (with_reducible exact Below.refl _ _) | ((with_reducible refine Below.alloc ?_ ?_ _); rotate_left; (next => ((try dsimp only); (try simp only [World.size_alloc, World.size_setCell, World.size_drew]); omega))) | ((with_reducible refine Below.setCell ?_ ?_ _); rotate_left; (next => ((try dsimp only); (try simp only [World.size_alloc, World.size_setCell, World.size_drew]); omega))) | (with_reducible refine Below.drew ?_) | ((with_reducible refine Below.trans ?_ (Below.mono hb3 ?_)); rotate_left; (next => ((try dsimp only); (try simp only [World.size_alloc, World.size_setCell, World.size_drew]); omega))) | ((with_reducible refine Below.trans ?_ (Below.mono hb2 ?_)); rotate_left; (next => ((try dsimp only); (try simp only [World.size_alloc, World.size_setCell, World.size_drew]); omega))) | ((with_reducible refine Below.trans ?_ (Below.mono hb1 ?_)); rotate_left; (next => ((try dsimp only); (try simp only [World.size_alloc, World.size_setCell, World.size_drew]); omega)))))⟩
  · have hk2 : (k == 0) = false := by simp; omega
    have hk3 : (k != 0) = true := by simp; omega
    have HE := Lib.hid he
    clear he hk
    have : ∃ (S : ByteArray) (k' : Int), ∀ w, Calls Try.prog 32 #[.agg #[.string t, .int .i64 j, .int .i64 r]] w fun e w' => e = .returned (.tuple #[.string S, .int .i64 k']) ∧ Below w.heap.size w w' := by
      rcases encode_cases t j r ht with ⟨J, R, rfl, rfl, hb', he'⟩ | ⟨k', hk', he'⟩
      · exact ⟨_, _, he'⟩
      · exact ⟨_, _, he'⟩
    obtain ⟨S, k', he'⟩ := this
    have HE' := Lib.hid he'
    clear he'
    go_enter Try.func12, Try.ntmps12
    go_wp2_with fail
    refine (H0.out _).mono ?_
    rintro e w1 ⟨rfl, hb1⟩
    have z1 := hb1.size
    have c1 := Below.cells hb1
    have f1 := Below.frozens hb1
    try simp only [World.size_alloc, World.size_setCell, World.size_drew] at z1 c1 f1
    go_wp2_with fail
    refine (HE.out _).mono ?_
    rintro e w2 ⟨rfl, hb2⟩
    have z2 := hb2.size
    have c2 := Below.cells hb2
    have f2 := Below.frozens hb2
    try simp only [World.size_alloc, World.size_setCell, World.size_drew] at z2 c2 f2
    go_wp2_with fail
    refine (HE'.out _).mono ?_
    rintro e w3 ⟨rfl, hb3⟩
    have z3 := hb3.size
    have c3 := Below.cells hb3
    have f3 := Below.frozens hb3
    try simp only [World.size_alloc, World.size_setCell, World.size_drew] at z3 c3 f3
    go_wp2_with fail
    go_ret
    exact ⟨rfl, (by repeat (first | (with_reducible exact Below.refl _ _) | ((with_reducible refine Below.alloc ?_ ?_ _); rotate_left; (next => ((try dsimp only); (try simp only [World.size_alloc, World.size_setCell, World.size_drew]); omega))) | ((with_reducible refine Below.setCell ?_ ?_ _); rotate_left; (next => ((try dsimp only); (try simp only [World.size_alloc, World.size_setCell, World.size_drew]); omega))) | (with_reducible refine Below.drew ?_) | ((with_reducible refine Below.trans ?_ (Below.mono hb3 ?_)); rotate_left; (next => ((try dsimp only); (try simp only [World.size_alloc, World.size_setCell, World.size_drew]); omega))) | ((with_reducible refine Below.trans ?_ (Below.mono hb2 ?_)); rotate_left; (next => ((try dsimp only); (try simp only [World.size_alloc, World.size_setCell, World.size_drew]); omega))) | ((with_reducible refine Below.trans ?_ (Below.mono hb1 ?_)); rotate_left; (next => ((try dsimp only); (try simp only [World.size_alloc, World.size_setCell, World.size_drew]); omega)))))⟩
end Go.Proofs.Ytamncanlbopehaa
