import Derived.Test.YtpomdnglknbanaaPa
import Derived.Test.YtpomdnglknbanaaPn
set_option linter.unusedSimpArgs false
set_option linter.unusedVariables false
namespace Go.Proofs.Ytpomdnglknbanaa
open Go Go.RowKit
theorem add_gen (A : Option Addr) (n c : Nat) (L : List Peer) (f : Nat → Prop) (id : ByteArray) (size first now : Int) (w : World) (hr : PRow w A n L f) (hn : n ≤ 9223372036854775807) (hz : ∀ k, k < n → (L.getD k default).id.size ≤ 9223372036854775807) (hm : id.size ≤ 9223372036854775807) :
    Calls Try.prog 38 #[.slice A n c, .string id, .int .i64 size, .int .i64 first, .int .i64 now] w fun e w' => ∃ k A' n' c' L', e = .returned (.tuple #[.slice A' n' c', .int .i64 k]) ∧ PRow w' A' n' L' (fun _ => True) ∧ n' ≤ 9223372036854775807 ∧ (∀ k, k < n' → (L'.getD k default).id.size ≤ 9223372036854775807) ∧
      ((k = 0 ∧ AddOK L id size first now ∧ L' = addS (newP id size first now) L ∧ n' ≤ 6) ∨ (k != 0) = true) ∧ Below w.heap.size w w' := by
  by_cases h : AddOK L id size first now
  · refine (add_yes A n c L f id size first now w hr h).mono ?_
    rintro e w' ⟨A', c', rfl, T, hb⟩
    have ht := h.tab
    have hl : (addS (newP id size first now) L).length = n + 1 := by rw [addS_len, hr.1]
    have h6 : n + 1 ≤ 6 := by have := ht.len; omega
    exact ⟨0, A', n + 1, c', _, rfl, T.row.imp (fun _ _ => trivial), by omega, fun k hk => Tab.sizes ht k (by omega), .inl ⟨rfl, h, rfl, h6⟩, hb⟩
  · refine (add_not A n c L f id size first now w hr hn hz hm h).mono ?_
    rintro e w' ⟨⟨k, hk, rfl⟩, hb⟩
    exact ⟨k, none, 0, 0, [], rfl, PRow.nil _ _ _, by omega, fun k hk => absurd hk (by omega), .inr hk, hb⟩
set_option maxRecDepth 100000 in
set_option maxHeartbeats 8000000 in
theorem peersApart_walk (A : Option Addr) (n c : Nat) (L : List Peer) (a b : ByteArray) (size first now : Int) (w : World) (hr : PRow w A n L (fun _ => True)) (hn : n ≤ 9223372036854775807) (hz : ∀ k, k < n → (L.getD k default).id.size ≤ 9223372036854775807) (ha : a.size ≤ maxLen) (hb : b.size ≤ maxLen)
    (_ : (Lit.int .i64 size).wf = true) (_ : (Lit.int .i64 first).wf = true) (_ : (Lit.int .i64 now).wf = true) :
    Calls Try.prog 4 #[.slice A n c, .string a, .string b, .int .i64 size, .int .i64 first, .int .i64 now] w fun e w' => e = .returned (.bool true) ∧ Below w.heap.size w w' := by
  have HB := Lib.hid (fun w => pbegun_ok w)
  have HR := Lib.hid hr
  have HZ := Lib.hid hz
  have HG := Lib.hid (fun A n c L f id w' hr hn hz hm => add_gen A n c L f id size first now w' hr hn hz hm)
  have HS := Lib.hid samePeers_ok
  clear hr hz
  go_enter Try.func4, Try.ntmps4
  go_wp2_with fail
  refine (HB.out _).mono ?_
  rintro e w1 ⟨rfl, hb1⟩
  have z1 := hb1.size
  have c1 := Below.cells hb1
  have f1 := Below.frozens hb1
  try simp only [World.size_alloc, World.size_setCell, World.size_drew] at z1 c1 f1
  go_wp2_with fail
  refine (HG.out A n c L _ a _ (HR.out.below hb1) hn HZ.out ha).mono ?_
  rintro e w2 ⟨k2, A2, n2, c2', L2, rfl, R2, m2, s2, q2, hb2⟩
  have HR2 := Lib.hid R2
  have HS2 := Lib.hid s2
  have HQ2 := Lib.hid q2
  have z2 := hb2.size
  clear R2 s2 q2
  go_wp2_with fail
  refine (HG.out A2 n2 c2' L2 _ b _ HR2.out m2 HS2.out hb).mono ?_
  rintro e w3 ⟨k3, A3, n3, c3', L3, rfl, R3, m3, s3, q3, hb3⟩
  have HR3 := Lib.hid R3
  have HQ3 := Lib.hid q3
  have z3 := hb3.size
  clear R3 s3 q3
  go_wp2_with fail
  refine (HG.out A n c L _ b _ (HR.out.below (by repeat (first | (with_reducible exact Below.refl _ _) | ((with_reducible refine Below.alloc ?_ ?_ _); rotate_left; (next => ((try dsimp only); (try simp only [World.size_alloc, World.size_setCell, World.size_drew]); omega))) | ((with_reducible refine Below.setCell ?_ ?_ _); rotate_left; (next => ((try dsimp only); (try simp only [World.size_alloc, World.size_setCell, World.size_drew]); omega))) | (with_reducible refine Below.drew ?_) | ((with_reducible refine Below.trans ?_ (Below.mono hb3 ?_)); rotate_left; (next => ((try dsimp only); (try simp only [World.size_alloc, World.size_setCell, World.size_drew]); omega))) | ((with_reducible refine Below.trans ?_ (Below.mono hb2 ?_)); rotate_left; (next => ((try dsimp only); (try simp only [World.size_alloc, World.size_setCell, World.size_drew]); omega))) | ((with_reducible refine Below.trans ?_ (Below.mono hb1 ?_)); rotate_left; (next => ((try dsimp only); (try simp only [World.size_alloc, World.size_setCell, World.size_drew]); omega)))))) hn HZ.out hb).mono ?_
  rintro e w4 ⟨k4, A4, n4, c4', L4, rfl, R4, m4, s4, q4, hb4⟩
  have HR4 := Lib.hid R4
  have HS4 := Lib.hid s4
  have HQ4 := Lib.hid q4
  have z4 := hb4.size
  clear R4 s4 q4
  go_wp2_with fail
  refine (HG.out A4 n4 c4' L4 _ a _ HR4.out m4 HS4.out ha).mono ?_
  rintro e w5 ⟨k5, A5, n5, c5', L5, rfl, R5, m5, s5, q5, hb5⟩
  have HR5 := Lib.hid R5
  have HQ5 := Lib.hid q5
  have z5 := hb5.size
  have B5 := Lib.hid (show Below w.heap.size w w5 from (by repeat (first | (with_reducible exact Below.refl _ _) | ((with_reducible refine Below.alloc ?_ ?_ _); rotate_left; (next => ((try dsimp only); (try simp only [World.size_alloc, World.size_setCell, World.size_drew]); omega))) | ((with_reducible refine Below.setCell ?_ ?_ _); rotate_left; (next => ((try dsimp only); (try simp only [World.size_alloc, World.size_setCell, World.size_drew]); omega))) | (with_reducible refine Below.drew ?_) | ((with_reducible refine Below.trans ?_ (Below.mono hb5 ?_)); rotate_left; (next => ((try dsimp only); (try simp only [World.size_alloc, World.size_setCell, World.size_drew]); omega))) | ((with_reducible refine Below.trans ?_ (Below.mono hb4 ?_)); rotate_left; (next => ((try dsimp only); (try simp only [World.size_alloc, World.size_setCell, World.size_drew]); omega))) | ((with_reducible refine Below.trans ?_ (Below.mono hb3 ?_)); rotate_left; (next => ((try dsimp only); (try simp only [World.size_alloc, World.size_setCell, World.size_drew]); omega))) | ((with_reducible refine Below.trans ?_ (Below.mono hb2 ?_)); rotate_left; (next => ((try dsimp only); (try simp only [World.size_alloc, World.size_setCell, World.size_drew]); omega))) | ((with_reducible refine Below.trans ?_ (Below.mono hb1 ?_)); rotate_left; (next => ((try dsimp only); (try simp only [World.size_alloc, World.size_setCell, World.size_drew]); omega))))))
  clear R5 s5 q5
  rcases HQ2.out with ⟨rfl, o2, e2, t2⟩ | f2
  · rcases HQ3.out with ⟨rfl, o3, e3, t3⟩ | f3
    · rcases HQ4.out with ⟨rfl, o4, e4, t4⟩ | f4
      · rcases HQ5.out with ⟨rfl, o5, e5, t5⟩ | f5
        · have hab : a ≠ b := fun e => by
            have h1 := o3.2.2.2.2.2.1
            rw [e2, ← e] at h1
            have h2 := addS_has (newP a size first now) L
            rw [show (newP a size first now).id = a from rfl, h1] at h2
            cases h2
          have e53 : L5 = L3 := by
            rw [e5, e4, e3, e2]
            exact addS_comm _ _ hab L
          have n53 : n5 = n3 := by rw [← HR5.out.1, ← HR3.out.1, e53]
          subst n53
          have HR3' := Lib.hid (show PRow w5 A3 n5 L5 (fun _ => True) by rw [e53]; exact HR3.out.below (hb4.trans (hb5.mono z4)))
          have hv := o3.tab
          rw [← e3, ← e53] at hv
          have HV := Lib.hid (fun k (hk : k < n5) => show (L5.getD k default).vals.length ≤ 1000 by have := hv.vals k (by rw [HR5.out.1]; exact hk); omega)
          clear o2 o3 o4 o5 e2 e3 e4 e5 hv e53 HQ2 HQ3 HQ4 HQ5
          go_wp2_with fail
          refine (HS.out A3 A5 n5 c3' c5' L5 _ _ _ HR3'.out HR5.out (by omega) HV.out).mono ?_
          rintro e w6 ⟨rfl, hb6⟩
          have z6 := hb6.size
          have c6 := Below.cells hb6
          have f6 := Below.frozens hb6
          try simp only [World.size_alloc, World.size_setCell, World.size_drew] at z6 c6 f6
          go_wp2_with fail
          go_ret
          exact ⟨rfl, B5.out.trans (hb6.mono B5.out.size)⟩
        · clear HQ2 HQ3 HQ4 HQ5 o2 o3 o4 e2 e3 e4
          go_wp2_with fail
          go_ret
          exact ⟨rfl, B5.out⟩
      · clear HQ2 HQ3 HQ4 HQ5 o2 o3 e2 e3
        go_wp2_with fail
        go_ret
        exact ⟨rfl, B5.out⟩
    · clear HQ2 HQ3 HQ4 HQ5 o2 e2
      go_wp2_with fail
      go_ret
      exact ⟨rfl, B5.out⟩
  · clear HQ2 HQ3 HQ4 HQ5
    go_wp2_with fail
    go_ret
    exact ⟨rfl, B5.out⟩
end Go.Proofs.Ytpomdnglknbanaa
