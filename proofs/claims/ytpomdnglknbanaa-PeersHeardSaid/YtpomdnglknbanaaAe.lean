/-
  peers.Add at whatever else; peers.Drop.
-/
import Derived.Test.YtpomdnglknbanaaAd
set_option linter.unusedSimpArgs false
set_option linter.unusedVariables false
namespace Go.Proofs.Ytpomdnglknbanaa
open Go.RowKit

set_option maxRecDepth 100000 in
set_option maxHeartbeats 4000000 in
theorem add_tab (A : Option Addr) (n c : Nat) (L : List Peer) (f : Nat → Prop) (id : ByteArray) (size first now : Int) (w : World) (hr : PRow w A n L f) (hn : n ≤ 9223372036854775807) (hz : ∀ k, k < n → (L.getD k default).id.size ≤ 9223372036854775807) (h : ¬ TabOK L) :
    Calls Try.prog 38 #[.slice A n c, .string id, .int .i64 size, .int .i64 first, .int .i64 now] w fun e w' => (∃ k : Int, (k != 0) = true ∧ e = .returned (.tuple #[.slice none 0 0, .int .i64 k])) ∧ Below w.heap.size w w' := by
  have HC := Lib.hid (pcheck_bad A n c L f w hr hn hz h)
  clear hr h hz
  go_enter Try.func38, Try.ntmps38
  go_wp2_with fail
  refine HC.out.mono ?_
  rintro e w1 ⟨⟨k, hk, rfl⟩, hb1⟩
  go_wp2_with fail
  go_ret2
  exact ⟨⟨k, hk, rfl⟩, hb1⟩
set_option maxRecDepth 100000 in
set_option maxHeartbeats 4000000 in
theorem add_form (A : Option Addr) (n c : Nat) (L : List Peer) (f : Nat → Prop) (id : ByteArray) (size first now : Int) (w : World) (hr : PRow w A n L f) (h : TabOK L) (hm : id.size ≤ 9223372036854775807) (hid : ¬ IdOK (byts id)) :
    Calls Try.prog 38 #[.slice A n c, .string id, .int .i64 size, .int .i64 first, .int .i64 now] w fun e w' => e = .returned (.tuple #[.slice none 0 0, .int .i64 3]) ∧ Below w.heap.size w w' := by
  have HC := Lib.hid (pcheck_ok A n c L f w hr h)
  have HI := Lib.hid (fun w' => id_bad id w' hm hid)
  clear hr h hid
  go_enter Try.func38, Try.ntmps38
  go_wp2_with fail
  refine (HC.out).mono ?_
  rintro e w1 ⟨rfl, hb1⟩
  have z1 := hb1.size
  have c1 := Below.cells hb1
  have f1 := Below.frozens hb1
  try simp only [World.size_alloc, World.size_setCell, World.size_drew] at z1 c1 f1
  go_wp2_with fail
  refine (HI.out _).mono ?_
  rintro e w' ⟨rfl, rfl⟩
  go_wp2_with fail
  go_ret2
  exact ⟨rfl, hb1⟩
set_option maxRecDepth 100000 in
set_option maxHeartbeats 8000000 in
theorem add_arg (A : Option Addr) (n c : Nat) (L : List Peer) (f : Nat → Prop) (id : ByteArray) (size first now : Int) (w : World) (hr : PRow w A n L f) (h : TabOK L) (hid : IdOK (byts id)) (hb : ¬ ((1 ≤ size ∧ size ≤ 64) ∧ (0 ≤ first ∧ first ≤ 16777216) ∧ 0 ≤ now ∧ now ≤ 1073741824)) :
    Calls Try.prog 38 #[.slice A n c, .string id, .int .i64 size, .int .i64 first, .int .i64 now] w fun e w' => e = .returned (.tuple #[.slice none 0 0, .int .i64 1]) ∧ Below w.heap.size w w' := by
  have HC := Lib.hid (pcheck_ok A n c L f w hr h)
  have HI := Lib.hid (fun w' => id_ok id w' hid)
  clear hr h hid
  by_cases a1 : size < 1
  · have d1 : decide (size < 1) = true := by simp; omega
    clear hb
    go_enter Try.func38, Try.ntmps38
    go_wp2_with fail
    refine (HC.out).mono ?_
    rintro e w1 ⟨rfl, hb1⟩
    have z1 := hb1.size
    have c1 := Below.cells hb1
    have f1 := Below.frozens hb1
    try simp only [World.size_alloc, World.size_setCell, World.size_drew] at z1 c1 f1
    go_wp2_with fail
    refine (HI.out _).mono ?_
    rintro e w' ⟨rfl, rfl⟩
    go_wp2_with fail
    go_ret2
    exact ⟨rfl, hb1⟩
  · have d1 : decide (size < 1) = false := by simp; omega
    by_cases a2 : 64 < size
    · have d2 : decide (64 < size) = true := by simp; omega
      clear hb
      go_enter Try.func38, Try.ntmps38
      go_wp2_with fail
      refine (HC.out).mono ?_
      rintro e w1 ⟨rfl, hb1⟩
      have z1 := hb1.size
      have c1 := Below.cells hb1
      have f1 := Below.frozens hb1
      try simp only [World.size_alloc, World.size_setCell, World.size_drew] at z1 c1 f1
      go_wp2_with fail
      refine (HI.out _).mono ?_
      rintro e w' ⟨rfl, rfl⟩
      go_wp2_with fail
      go_ret2
      exact ⟨rfl, hb1⟩
    · have d2 : decide (64 < size) = false := by simp; omega
      by_cases a3 : 0 ≤ first ∧ first ≤ 16777216
      · have HV := Lib.hid (fun w' => val_ok first a3.1 a3.2 w')
        have a4 : now < 0 ∨ 1073741824 < now := by omega
        clear hb
        by_cases a5 : now < 0
        · have d3 : decide (now < 0) = true := by simp; omega
          clear a4
          go_enter Try.func38, Try.ntmps38
          go_wp2_with fail
          refine (HC.out).mono ?_
          rintro e w1 ⟨rfl, hb1⟩
          have z1 := hb1.size
          have c1 := Below.cells hb1
          have f1 := Below.frozens hb1
          try simp only [World.size_alloc, World.size_setCell, World.size_drew] at z1 c1 f1
          go_wp2_with fail
          refine (HI.out _).mono ?_
          rintro e w' ⟨rfl, rfl⟩
          go_wp2_with fail
          refine (HV.out _).mono ?_
          rintro e w' ⟨rfl, rfl⟩
          go_wp2_with fail
          go_ret2
          exact ⟨rfl, hb1⟩
        · have d3 : decide (now < 0) = false := by simp; omega
          have d4 : decide (1073741824 < now) = true := by simp; omega
          clear a4
          go_enter Try.func38, Try.ntmps38
          go_wp2_with fail
          refine (HC.out).mono ?_
          rintro e w1 ⟨rfl, hb1⟩
          have z1 := hb1.size
          have c1 := Below.cells hb1
          have f1 := Below.frozens hb1
          try simp only [World.size_alloc, World.size_setCell, World.size_drew] at z1 c1 f1
          go_wp2_with fail
          refine (HI.out _).mono ?_
          rintro e w' ⟨rfl, rfl⟩
          go_wp2_with fail
          refine (HV.out _).mono ?_
          rintro e w' ⟨rfl, rfl⟩
          go_wp2_with fail
          go_ret2
          exact ⟨rfl, hb1⟩
      · have HV := Lib.hid (fun w' => val_no first (by omega) w')
        clear hb a3
        go_enter Try.func38, Try.ntmps38
        go_wp2_with fail
        refine (HC.out).mono ?_
        rintro e w1 ⟨rfl, hb1⟩
        have z1 := hb1.size
        have c1 := Below.cells hb1
        have f1 := Below.frozens hb1
        try simp only [World.size_alloc, World.size_setCell, World.size_drew] at z1 c1 f1
        go_wp2_with fail
        refine (HI.out _).mono ?_
        rintro e w' ⟨rfl, rfl⟩
        go_wp2_with fail
        refine (HV.out _).mono ?_
        rintro e w' ⟨rfl, rfl⟩
        go_wp2_with fail
        go_ret2
        exact ⟨rfl, hb1⟩
set_option maxRecDepth 100000 in
set_option maxHeartbeats 8000000 in
theorem add_there (A : Option Addr) (n c : Nat) (L : List Peer) (f : Nat → Prop) (id : ByteArray) (size first now : Int) (w : World) (hr : PRow w A n L f) (h : TabOK L) (hid : IdOK (byts id)) (hs : 1 ≤ size ∧ size ≤ 64) (hf : 0 ≤ first ∧ first ≤ 16777216) (hnow : 0 ≤ now ∧ now ≤ 1073741824)
    (b : Bool) (hb : has L id = b) (hc : b = true ∨ L.length = 6) :
    Calls Try.prog 38 #[.slice A n c, .string id, .int .i64 size, .int .i64 first, .int .i64 now] w fun e w' => e = .returned (.tuple #[.slice none 0 0, .int .i64 (if b then 5 else 10)]) ∧ Below w.heap.size w w' := by
  have hl := hr.1
  have HC := Lib.hid (pcheck_ok A n c L f w hr h)
  have HI := Lib.hid (fun w' => id_ok id w' hid)
  have HF := Lib.hid (fun w' (hr : PRow w' A n L f) => find_ok A n c L f id w' hr (by have := h.len; omega) h.order)
  have HR := Lib.hid hr
  rw [hb] at HF
  obtain ⟨P, hP⟩ : ∃ P, pos L id = P := ⟨_, rfl⟩
  rw [hP] at HF
  obtain ⟨s1, s2⟩ := hs
  obtain ⟨fa, fb⟩ := hf
  obtain ⟨n1, n2⟩ := hnow
  have d1 : decide (size < 1) = false := by simp; omega
  have d2 : decide (64 < size) = false := by simp; omega
  have d3 : decide (now < 0) = false := by simp; omega
  have d4 : decide (1073741824 < now) = false := by simp; omega
  clear hr h hid hP hb
  cases b with
  | true =>
    clear hc
    go_enter Try.func38, Try.ntmps38
    go_wp2_with fail
    refine (HC.out).mono ?_
    rintro e w1 ⟨rfl, hb1⟩
    have z1 := hb1.size
    have c1 := Below.cells hb1
    have f1 := Below.frozens hb1
    try simp only [World.size_alloc, World.size_setCell, World.size_drew] at z1 c1 f1
    go_wp2_with fail
    refine (HI.out _).mono ?_
    rintro e w' ⟨rfl, rfl⟩
    go_wp2_with fail
    refine (val_ok first fa fb _).mono ?_
    rintro e w' ⟨rfl, rfl⟩
    go_wp2_with fail
    refine (HF.out _ (HR.out.below hb1)).mono ?_
    rintro e w2 ⟨rfl, hb2⟩
    have z2 := hb2.size
    have c2 := Below.cells hb2
    have f2 := Below.frozens hb2
    try simp only [World.size_alloc, World.size_setCell, World.size_drew] at z2 c2 f2
    go_wp2_with fail
    go_ret2
    exact ⟨rfl, (by repeat (first | (with_reducible exact Below.refl _ _) | ((with_reducible refine Below.alloc ?_ ?_ _); rotate_left; (next => ((try dsimp only); (try simp only [World.size_alloc, World.size_setCell, World.size_drew]); omega))) | ((with_reducible refine Below.setCell ?_ ?_ _); rotate_left; (next => ((try dsimp only); (try simp only [World.size_alloc, World.size_setCell, World.size_drew]); omega))) | (with_reducible refine Below.drew ?_) | ((with_reducible refine Below.trans ?_ (Below.mono hb2 ?_)); rotate_left; (next => ((try dsimp only); (try simp only [World.size_alloc, World.size_setCell, World.size_drew]); omega))) | ((with_reducible refine Below.trans ?_ (Below.mono hb1 ?_)); rotate_left; (next => ((try dsimp only); (try simp only [World.size_alloc, World.size_setCell, World.size_drew]); omega)))))⟩
  | false =>
    have n6 : ((n : Int) == 6) = true := by rcases hc with h | h; cases h; simp; omega
    clear hc
    go_enter Try.func38, Try.ntmps38
    go_wp2_with fail
    refine (HC.out).mono ?_
    rintro e w1 ⟨rfl, hb1⟩
    have z1 := hb1.size
    have c1 := Below.cells hb1
    have f1 := Below.frozens hb1
    try simp only [World.size_alloc, World.size_setCell, World.size_drew] at z1 c1 f1
    go_wp2_with fail
    refine (HI.out _).mono ?_
    rintro e w' ⟨rfl, rfl⟩
    go_wp2_with fail
    refine (val_ok first fa fb _).mono ?_
    rintro e w' ⟨rfl, rfl⟩
    go_wp2_with fail
    refine (HF.out _ (HR.out.below hb1)).mono ?_
    rintro e w2 ⟨rfl, hb2⟩
    have z2 := hb2.size
    have c2 := Below.cells hb2
    have f2 := Below.frozens hb2
    try simp only [World.size_alloc, World.size_setCell, World.size_drew] at z2 c2 f2
    go_wp2_with fail
    go_ret2
    exact ⟨rfl, (by repeat (first | (with_reducible exact Below.refl _ _) | ((with_reducible refine Below.alloc ?_ ?_ _); rotate_left; (next => ((try dsimp only); (try simp only [World.size_alloc, World.size_setCell, World.size_drew]); omega))) | ((with_reducible refine Below.setCell ?_ ?_ _); rotate_left; (next => ((try dsimp only); (try simp only [World.size_alloc, World.size_setCell, World.size_drew]); omega))) | (with_reducible refine Below.drew ?_) | ((with_reducible refine Below.trans ?_ (Below.mono hb2 ?_)); rotate_left; (next => ((try dsimp only); (try simp only [World.size_alloc, World.size_setCell, World.size_drew]); omega))) | ((with_reducible refine Below.trans ?_ (Below.mono hb1 ?_)); rotate_left; (next => ((try dsimp only); (try simp only [World.size_alloc, World.size_setCell, World.size_drew]); omega)))))⟩
theorem delT_ok (A : Option Addr) (n c i base : Nat) (L : List Peer) (w : World) (h : Tab w base A n c L) (hi : i < n) (hn : n ≤ 1000) (hbase : base ≤ w.heap.size) :
    Calls Try.prog 108 #[.slice A n c, .int .i64 i, .int .i64 ((i + 1 : Nat) : Int)] w fun e w' => ∃ A' c', e = .returned (.slice A' (n - 1) c') ∧ Tab w' base A' (n - 1) c' (L.take i ++ L.drop (i + 1)) ∧ Below base w w' := by
  obtain ⟨xs, h1, h2⟩ := h
  obtain ⟨g, cap, hv, hcap, _⟩ := h1.form (by omega)
  simp only [Value.slice.injEq, true_and] at hv
  obtain ⟨rfl, rfl⟩ := hv
  refine (delP_ok g n c i base xs w h1 h2.one hi (by omega)).mono ?_
  rintro e w' ⟨rfl, h3, h4⟩
  have hne : (56 : TypeId) ≠ 3 := by decide
  have k2 := h2.grown h1 hne h4
  refine ⟨_, _, rfl, ⟨_, h3, (k2.take i).app (k2.drop (i + 1))⟩, h4.os, h4.tape, h4.output, h4.size, fun k hk => h4.block k (Nat.lt_of_lt_of_le hk hbase) (fun e => ?_)⟩
  simp only [Option.some.injEq] at e
  have := (h1.lt g rfl).1
  omega
set_option maxRecDepth 100000 in
set_option maxHeartbeats 8000000 in
theorem drop_ok (A : Option Addr) (n c : Nat) (L : List Peer) (f : Nat → Prop) (id : ByteArray) (w : World) (hr : PRow w A n L f) (h : TabOK L) (hb : has L id = true) :
    Calls Try.prog 40 #[.slice A n c, .string id] w fun e w' => ∃ A' c', e = .returned (.tuple #[.slice A' (n - 1) c', .int .i64 0]) ∧ Tab w' w.heap.size A' (n - 1) c' (dropS L id) ∧ Below w.heap.size w w' := by
  have hl := hr.1
  have h6 := h.len
  have HC := Lib.hid (pcheck_ok A n c L f w hr h)
  have HF := Lib.hid (fun w' (hr : PRow w' A n L f) => find_ok A n c L f id w' hr (by omega) h.order)
  have HCo := Lib.hid (fun w' (hr : PRow w' A n L f) => copied_ok A n c L f w' hr (by omega) (fun k hk => by have := h.vals k (by omega); omega))
  have HR := Lib.hid hr
  rw [hb] at HF
  have hp : pos L id < L.length := by unfold has at hb; simp at hb; exact hb.1
  have HD := Lib.hid (show dropS L id = L.take (pos L id) ++ L.drop (pos L id + 1) from rfl)
  obtain ⟨P, hP⟩ : ∃ P, pos L id = P := ⟨_, rfl⟩
  rw [hP] at HF hp HD
  have p1 : IntKind.i64.wrap ((P : Int) + 1) = ((P + 1 : Nat) : Int) := IntWalk.i64_in _ (by omega)
  clear hr h hP hb
  go_enter Try.func40, Try.ntmps40
  go_wp2_with fail
  refine (HC.out).mono ?_
  rintro e w1 ⟨rfl, hb1⟩
  have z1 := hb1.size
  have c1 := Below.cells hb1
  have f1 := Below.frozens hb1
  try simp only [World.size_alloc, World.size_setCell, World.size_drew] at z1 c1 f1
  go_wp2_with fail
  refine (HF.out _ (HR.out.below hb1)).mono ?_
  rintro e w2 ⟨rfl, hb2⟩
  have z2 := hb2.size
  have c2 := Below.cells hb2
  have f2 := Below.frozens hb2
  try simp only [World.size_alloc, World.size_setCell, World.size_drew] at z2 c2 f2
  go_wp2_with fail
  refine (HCo.out _ (HR.out.below (by repeat (first | (with_reducible exact Below.refl _ _) | ((with_reducible refine Below.alloc ?_ ?_ _); rotate_left; (next => ((try dsimp only); (try simp only [World.size_alloc, World.size_setCell, World.size_drew]); omega))) | ((with_reducible refine Below.setCell ?_ ?_ _); rotate_left; (next => ((try dsimp only); (try simp only [World.size_alloc, World.size_setCell, World.size_drew]); omega))) | (with_reducible refine Below.drew ?_) | ((with_reducible refine Below.trans ?_ (Below.mono hb2 ?_)); rotate_left; (next => ((try dsimp only); (try simp only [World.size_alloc, World.size_setCell, World.size_drew]); omega))) | ((with_reducible refine Below.trans ?_ (Below.mono hb1 ?_)); rotate_left; (next => ((try dsimp only); (try simp only [World.size_alloc, World.size_setCell, World.size_drew]); omega))))))).mono ?_
  rintro e w3 ⟨A3, cc3, xs, rfl, own3, pv3, hb3⟩
  have T3 := Lib.hid (show Tab w3 w2.heap.size A3 n cc3 L from ⟨xs, own3, pv3⟩)
  have z3 := hb3.size
  clear own3 pv3
  go_wp2_with fail
  refine (delT_ok A3 n cc3 P w2.heap.size L w3 T3.out (by omega) (by omega) z3).mono ?_
  rintro e w4 ⟨A4, cc4, rfl, T4, hb4⟩
  have HT4 := Lib.hid (T4.mono (show w.heap.size ≤ w2.heap.size by omega))
  have HB4 := Lib.hid (show Below w.heap.size w w4 from (show Below w.heap.size w w3 from (by repeat (first | (with_reducible exact Below.refl _ _) | ((with_reducible refine Below.alloc ?_ ?_ _); rotate_left; (next => ((try dsimp only); (try simp only [World.size_alloc, World.size_setCell, World.size_drew]); omega))) | ((with_reducible refine Below.setCell ?_ ?_ _); rotate_left; (next => ((try dsimp only); (try simp only [World.size_alloc, World.size_setCell, World.size_drew]); omega))) | (with_reducible refine Below.drew ?_) | ((with_reducible refine Below.trans ?_ (Below.mono hb3 ?_)); rotate_left; (next => ((try dsimp only); (try simp only [World.size_alloc, World.size_setCell, World.size_drew]); omega))) | ((with_reducible refine Below.trans ?_ (Below.mono hb2 ?_)); rotate_left; (next => ((try dsimp only); (try simp only [World.size_alloc, World.size_setCell, World.size_drew]); omega))) | ((with_reducible refine Below.trans ?_ (Below.mono hb1 ?_)); rotate_left; (next => ((try dsimp only); (try simp only [World.size_alloc, World.size_setCell, World.size_drew]); omega)))))).trans (hb4.mono (by omega)))
  clear T4 hb4
  go_wp2_with fail
  go_ret2
  exact ⟨A4, cc4, rfl, by rw [HD.out]; exact HT4.out, HB4.out⟩
set_option maxRecDepth 100000 in
set_option maxHeartbeats 8000000 in
theorem drop_none (A : Option Addr) (n c : Nat) (L : List Peer) (f : Nat → Prop) (id : ByteArray) (w : World) (hr : PRow w A n L f) (h : TabOK L) (hb : has L id = false) :
    Calls Try.prog 40 #[.slice A n c, .string id] w fun e w' => e = .returned (.tuple #[.slice none 0 0, .int .i64 4]) ∧ Below w.heap.size w w' := by
  have hl := hr.1
  have h6 := h.len
  have HC := Lib.hid (pcheck_ok A n c L f w hr h)
  have HF := Lib.hid (fun w' (hr : PRow w' A n L f) => find_ok A n c L f id w' hr (by omega) h.order)
  have HR := Lib.hid hr
  rw [hb] at HF
  obtain ⟨P, hP⟩ : ∃ P, pos L id = P := ⟨_, rfl⟩
  rw [hP] at HF
  clear hr h hP hb
  go_enter Try.func40, Try.ntmps40
  go_wp2_with fail
  refine (HC.out).mono ?_
  rintro e w1 ⟨rfl, hb1⟩
  have z1 := hb1.size
  have c1 := Below.cells hb1
  have f1 := Below.frozens hb1
  try simp only [World.size_alloc, World.size_setCell, World.size_drew] at z1 c1 f1
  go_wp2_with fail
  refine (HF.out _ (HR.out.below hb1)).mono ?_
  rintro e w2 ⟨rfl, hb2⟩
  have z2 := hb2.size
  have c2 := Below.cells hb2
  have f2 := Below.frozens hb2
  try simp only [World.size_alloc, World.size_setCell, World.size_drew] at z2 c2 f2
  go_wp2_with fail
  go_ret2
  exact ⟨rfl, (by repeat (first | (with_reducible exact Below.refl _ _) | ((with_reducible refine Below.alloc ?_ ?_ _); rotate_left; (next => ((try dsimp only); (try simp only [World.size_alloc, World.size_setCell, World.size_drew]); omega))) | ((with_reducible refine Below.setCell ?_ ?_ _); rotate_left; (next => ((try dsimp only); (try simp only [World.size_alloc, World.size_setCell, World.size_drew]); omega))) | (with_reducible refine Below.drew ?_) | ((with_reducible refine Below.trans ?_ (Below.mono hb2 ?_)); rotate_left; (next => ((try dsimp only); (try simp only [World.size_alloc, World.size_setCell, World.size_drew]); omega))) | ((with_reducible refine Below.trans ?_ (Below.mono hb1 ?_)); rotate_left; (next => ((try dsimp only); (try simp only [World.size_alloc, World.size_setCell, World.size_drew]); omega)))))⟩
set_option maxRecDepth 100000 in
set_option maxHeartbeats 4000000 in
theorem drop_tab (A : Option Addr) (n c : Nat) (L : List Peer) (f : Nat → Prop) (id : ByteArray) (w : World) (hr : PRow w A n L f) (hn : n ≤ 9223372036854775807) (hz : ∀ k, k < n → (L.getD k default).id.size ≤ 9223372036854775807) (h : ¬ TabOK L) :
    Calls Try.prog 40 #[.slice A n c, .string id] w fun e w' => (∃ k : Int, (k != 0) = true ∧ e = .returned (.tuple #[.slice none 0 0, .int .i64 k])) ∧ Below w.heap.size w w' := by
  have HC := Lib.hid (pcheck_bad A n c L f w hr hn hz h)
  clear hr h hz
  go_enter Try.func40, Try.ntmps40
  go_wp2_with fail
  refine HC.out.mono ?_
  rintro e w1 ⟨⟨k, hk, rfl⟩, hb1⟩
  go_wp2_with fail
  go_ret2
  exact ⟨⟨k, hk, rfl⟩, hb1⟩
end Go.Proofs.Ytpomdnglknbanaa
