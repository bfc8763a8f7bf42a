/-
  The row of subs read: the closures of Join and Part, slices.IndexFunc and slices.ContainsFunc at it.
  slices.Delete and the whole of Part: the row of subs.
  (*Node).Part.
  (*Node).Join.
  (*Node).Join, where it fails.
  slices.Clone at subs, (*Node).Subs; the closure of Leave.
-/
import Derived.Test.YtpomdnglknbanaaGreatNn
import Derived.Test.YtpomdnglknbanaaGreatCl
set_option linter.unusedSimpArgs false
set_option linter.unusedVariables false
namespace Go.Proofs.YtpomdnglknbanaaGreat
open Go Go.RowKit
def SubAt (w : World) (b o : Nat) (s : Sub) : Prop :=
  w.cell? ⟨b, o, none⟩ = some (.string s.id) ∧ w.cell? ⟨b, o + 1, none⟩ = some (.int .i64 s.theta) ∧ w.cell? ⟨b, o + 2, none⟩ = some (.bool s.on)
/-- The slice with address A and n elements reads as L. -/
def SRow (w : World) (A : Option Addr) (n : Nat) (L : List Sub) : Prop :=
  L.length = n ∧ (0 < n → ∃ b off, A = some ⟨b, off, none⟩ ∧ b < w.heap.size ∧ ∀ k, k < n → SubAt w b (off + k * 3) (L.getD k default))
theorem SRow.below {w w' : World} {A : Option Addr} {n : Nat} {L : List Sub} (h : SRow w A n L) (hb : Below w.heap.size w w') : SRow w' A n L := by
  refine ⟨h.1, fun h0 => ?_⟩
  obtain ⟨b, off, hA, lb, hp⟩ := h.2 h0
  refine ⟨b, off, hA, Nat.lt_of_lt_of_le lb hb.size, fun k hk => ?_⟩
  obtain ⟨a1, a2, a3⟩ := hp k hk
  exact ⟨(hb.cell (p := ⟨b, _, none⟩) lb).trans a1, (hb.cell (p := ⟨b, _, none⟩) lb).trans a2, (hb.cell (p := ⟨b, _, none⟩) lb).trans a3⟩
theorem SRow.at {w : World} {A : Option Addr} {n : Nat} {L : List Sub} (h : SRow w A n L) {k : Nat} (hk : k < n) : ∃ b off, A = some ⟨b, off, none⟩ ∧ b < w.heap.size ∧ SubAt w b (off + k * 3) (L.getD k default) := by
  obtain ⟨b, off, hA, lb, hp⟩ := h.2 (by omega)
  exact ⟨b, off, hA, lb, hp k hk⟩
theorem srow_own {w : World} {base n c : Nat} {A : Option Addr} {L : List Sub} (h : w.ownsRow base 53 3 (.slice A n c) n (subsC L)) (hn : L.length = n) : SRow w A n L := by
  refine ⟨hn, fun h0 => ?_⟩
  have h4 := h
  rcases h.2 with ⟨_, h0'⟩ | ⟨g, c', cur, he, _, hg, hnc, hcm, hcs, htk⟩
  · omega
  simp only [Value.slice.injEq] at he
  obtain ⟨rfl, _, rfl⟩ := he
  refine ⟨g, 0, rfl, (Array.getElem?_eq_some_iff.1 hg).1, fun k hk => ?_⟩
  have cell : ∀ i, i < 3 → w.cell? ⟨g, 0 + k * 3 + i, none⟩ = (subC (L.getD k default))[i]? := fun i hi => by
    have hs := subsC_get L k i (by omega) hi
    have hi' : i < (subC (L.getD k default)).length := by simpa [subC] using hi
    have := h4.cells (g := g) rfl (k * 3 + i) ((subC (L.getD k default))[i]) (by rw [hs, List.getElem?_eq_getElem hi'])
    rw [Go.WideShapes.add_plain, Nat.zero_add] at this
    rw [Nat.zero_add, this, List.getElem?_eq_getElem hi']
  exact ⟨cell 0 (by omega), cell 1 (by omega), cell 2 (by omega)⟩
/-- The sub of this name and this threshold. -/
def hitS (id : ByteArray) (th : Int) (u : Sub) : Bool := (u.id.toList == id.toList) && (u.theta == th)
def idxS (p : Sub → Bool) (L : List Sub) : Int := if L.any p then (L.findIdx p : Int) else -1
theorem idxS_some {p : Sub → Bool} {L : List Sub} {k : Nat} (hk : k < L.length) (h : p (L.getD k default) = true) (hj : ∀ j, j < k → p (L.getD j default) = false) : idxS p L = k := by
  have g : ∀ j (hj : j < L.length), L.getD j default = L[j] := fun j hj => by rw [List.getD_eq_getElem?_getD, List.getElem?_eq_getElem hj]; rfl
  have ha : L.any p = true := List.any_eq_true.2 ⟨L[k], List.getElem_mem _, by rw [← g k hk]; exact h⟩
  unfold idxS
  rw [if_pos ha, (List.findIdx_eq hk).2 ⟨by rw [← g k hk]; exact h, fun j hji => by rw [← g j (by omega)]; exact hj j hji⟩]
theorem idxS_none {p : Sub → Bool} {L : List Sub} (hj : ∀ j, j < L.length → p (L.getD j default) = false) : idxS p L = -1 := by
  have g : ∀ j (hj : j < L.length), L.getD j default = L[j] := fun j hj => by rw [List.getD_eq_getElem?_getD, List.getElem?_eq_getElem hj]; rfl
  have ha : ¬ L.any p = true := fun h => by
    obtain ⟨u, hu, hpu⟩ := List.any_eq_true.1 h
    obtain ⟨j, hjl, rfl⟩ := List.getElem_of_mem hu
    have := hj j hjl
    rw [g j hjl, hpu] at this
    cases this
  unfold idxS
  rw [if_neg ha]
set_option maxHeartbeats 2000000 in
theorem join1_ok (s id : ByteArray) (x th : Int) (on : Bool) (b1 b2 : Nat) (r1 r2 r : Bool) (w : World) (hc1 : w.cell? ⟨b1, 0, none⟩ = some (.string id)) (hb1 : b1 < w.heap.size) (hc2 : w.cell? ⟨b2, 0, none⟩ = some (.int .i64 th)) (hb2 : b2 < w.heap.size) (hr1 : (s.toList == id.toList) = r1) (hr2 : (x == th) = r2) (hrr : (r1 && r2) = r) :
    Calls Tryz.prog 58 #[.agg #[.string s, .int .i64 x, .bool on], .pointer (some ⟨b1, 0, none⟩), .pointer (some ⟨b2, 0, none⟩)] w fun e w' => e = .returned (.bool r) ∧ Below w.heap.size w w' := by
  subst hrr
  have qa := alloc_cells
  have qf := alloc_frozens
  cases r1 <;> cases r2
  all_goals
    go_enter Tryz.func58, Tryz.ntmps58
    go_wp2_with fail
    go_ret
    exact ⟨rfl, (by repeat (first | (with_reducible exact Below.refl _ _) | ((with_reducible refine Below.alloc ?_ ?_ _); rotate_left; (next => ((try dsimp only); (try simp only [World.size_alloc, World.size_setCell, World.size_drew]); omega))) | ((with_reducible refine Below.setCell ?_ ?_ _); rotate_left; (next => ((try dsimp only); (try simp only [World.size_alloc, World.size_setCell, World.size_drew]); omega))) | (with_reducible refine Below.drew ?_) | (refine Below.trans ?_ (by assumption))))⟩
set_option maxHeartbeats 2000000 in
theorem part1_ok (s id : ByteArray) (x th : Int) (on : Bool) (b1 b2 : Nat) (r1 r2 r : Bool) (w : World) (hc1 : w.cell? ⟨b1, 0, none⟩ = some (.string id)) (hb1 : b1 < w.heap.size) (hc2 : w.cell? ⟨b2, 0, none⟩ = some (.int .i64 th)) (hb2 : b2 < w.heap.size) (hr1 : (s.toList == id.toList) = r1) (hr2 : (x == th) = r2) (hrr : (r1 && r2) = r) :
    Calls Tryz.prog 60 #[.agg #[.string s, .int .i64 x, .bool on], .pointer (some ⟨b1, 0, none⟩), .pointer (some ⟨b2, 0, none⟩)] w fun e w' => e = .returned (.bool r) ∧ Below w.heap.size w w' := by
  subst hrr
  have qa := alloc_cells
  have qf := alloc_frozens
  cases r1 <;> cases r2
  all_goals
    go_enter Tryz.func60, Tryz.ntmps60
    go_wp2_with fail
    go_ret
    exact ⟨rfl, (by repeat (first | (with_reducible exact Below.refl _ _) | ((with_reducible refine Below.alloc ?_ ?_ _); rotate_left; (next => ((try dsimp only); (try simp only [World.size_alloc, World.size_setCell, World.size_drew]); omega))) | ((with_reducible refine Below.setCell ?_ ?_ _); rotate_left; (next => ((try dsimp only); (try simp only [World.size_alloc, World.size_setCell, World.size_drew]); omega))) | (with_reducible refine Below.drew ?_) | (refine Below.trans ?_ (by assumption))))⟩
set_option maxRecDepth 100000 in
set_option maxHeartbeats 4000000 in
theorem index_join (A : Option Addr) (n c : Nat) (L : List Sub) (id : ByteArray) (th : Int) (b1 b2 : Nat) (w : World) (hr : SRow w A n L) (hn : n ≤ 1000) (hc1 : w.cell? ⟨b1, 0, none⟩ = some (.string id)) (hc2 : w.cell? ⟨b2, 0, none⟩ = some (.int .i64 th)) :
    Calls Tryz.prog 59 #[.slice A n c, .func (.func 58) #[] #[.pointer (some ⟨b1, 0, none⟩), .pointer (some ⟨b2, 0, none⟩)]] w fun e w' => e = .returned (.int .i64 (idxS (hitS id th) L)) ∧ Below w.heap.size w w' := by
  have hl := hr.1
  have HR := Lib.hid hr
  have lb1 := World.block_lt_of_cell? w _ hc1
  have lb2 := World.block_lt_of_cell? w _ hc2
  have HC1 := Lib.hid hc1
  have HC2 := Lib.hid hc2
  have HF := Lib.hid join1_ok
  clear hr hc1 hc2
  have qa := alloc_cells
  have qf := alloc_frozens
  go_enter Tryz.func59, Tryz.ntmps59
  go_wp2_with fail
  go_loopw [8] (fun v wr => ∃ k : Nat, k ≤ n ∧ v = .int .i64 k ∧ (∀ j, j < k → hitS id th (L.getD j default) = false) ∧ Below w.heap.size w wr) (fun v _ => n - (intOf v).toNat)
  case atStart => exact ⟨0, Nat.zero_le _, rfl, fun j hj => absurd hj (by omega), (by repeat (first | (with_reducible exact Below.refl _ _) | ((with_reducible refine Below.alloc ?_ ?_ _); rotate_left; (next => ((try dsimp only); (try simp only [World.size_alloc, World.size_setCell, World.size_drew]); omega))) | ((with_reducible refine Below.setCell ?_ ?_ _); rotate_left; (next => ((try dsimp only); (try simp only [World.size_alloc, World.size_setCell, World.size_drew]); omega))) | (with_reducible refine Below.drew ?_) | (refine Below.trans ?_ (by assumption))))⟩
  case round =>
    obtain ⟨k, hk, rfl, hno, bel⟩ := hrel
    have sz0 := bel.size
    have cb1 : wr.cell? ⟨b1, 0, none⟩ = some (.string id) := (bel.cell (p := ⟨b1, 0, none⟩) lb1).trans HC1.out
    have cb2 : wr.cell? ⟨b2, 0, none⟩ = some (.int .i64 th) := (bel.cell (p := ⟨b2, 0, none⟩) lb2).trans HC2.out
    have bz1 : b1 < wr.heap.size := by omega
    have bz2 : b2 < wr.heap.size := by omega
    by_cases hlt : k < n
    · obtain ⟨b, off, rfl, lb, hp⟩ := (HR.out.below bel).at hlt
      obtain ⟨u, huk⟩ : ∃ u, L.getD k default = u := ⟨_, rfl⟩
      rw [huk] at hp
      obtain ⟨k0, k1, k2⟩ := hp
      have B0 := Lib.hid bel
      obtain ⟨r1, hr1⟩ : ∃ r, (u.id.toList == id.toList) = r := ⟨_, rfl⟩
      obtain ⟨r2, hr2⟩ : ∃ r, (u.theta == th) = r := ⟨_, rfl⟩
      have hh : hitS id th u = (r1 && r2) := by unfold hitS; rw [hr1, hr2]
      have HR1 := Lib.hid hr1
      have HR2 := Lib.hid hr2
      obtain ⟨r, hrr⟩ : ∃ r, (r1 && r2) = r := ⟨_, rfl⟩
      rw [hrr] at hh
      have HRR := Lib.hid hrr
      cases r with
      | true =>
        have HKi := Lib.hid (idxS_some (p := hitS id th) (L := L) (k := k) (by omega) (by rw [huk]; exact hh) hno)
        clear bel hno huk hh hr1 hr2 hrr
        go_wp2_with fail
        refine (HF.out _ id _ th _ b1 b2 r1 r2 true _ cb1 bz1 cb2 bz2 HR1.out HR2.out HRR.out).mono ?_
        rintro e w1 ⟨rfl, hb1⟩
        have z1 := hb1.size
        have c1 := Below.cells hb1
        have f1 := Below.frozens hb1
        try simp only [World.size_alloc, World.size_setCell, World.size_drew] at z1 c1 f1
        go_wp2_with fail
        go_ret
        exact ⟨by rw [HKi.out]; rfl, B0.out.trans (Below.mono hb1 sz0)⟩
      | false =>
        have HNo := Lib.hid (show ∀ j, j < k + 1 → hitS id th (L.getD j default) = false from fun j hj => by
          rcases Nat.lt_or_ge j k with c | c
          · exact hno j c
          · obtain rfl : j = k := by omega
            rw [huk]; exact hh)
        clear bel hno huk hh hr1 hr2 hrr
        go_wp2_with fail
        refine (HF.out _ id _ th _ b1 b2 r1 r2 false _ cb1 bz1 cb2 bz2 HR1.out HR2.out HRR.out).mono ?_
        rintro e w1 ⟨rfl, hb1⟩
        have z1 := hb1.size
        have c1 := Below.cells hb1
        have f1 := Below.frozens hb1
        try simp only [World.size_alloc, World.size_setCell, World.size_drew] at z1 c1 f1
        go_wp2_with fail
        go_roundw
        case rel => exact ⟨k + 1, by omega, by go_num, HNo.out, B0.out.trans (Below.mono hb1 sz0)⟩
        case measure => simp [intOf]; omega
    · obtain rfl : n = k := by omega
      have HKi := Lib.hid (idxS_none (p := hitS id th) (L := L) (fun j hj => hno j (by omega)))
      clear hno
      go_wp2_with fail
      go_ret
      exact ⟨by rw [HKi.out]; rfl, bel⟩
set_option maxRecDepth 100000 in
set_option maxHeartbeats 4000000 in
theorem index_part (A : Option Addr) (n c : Nat) (L : List Sub) (id : ByteArray) (th : Int) (b1 b2 : Nat) (w : World) (hr : SRow w A n L) (hn : n ≤ 1000) (hc1 : w.cell? ⟨b1, 0, none⟩ = some (.string id)) (hc2 : w.cell? ⟨b2, 0, none⟩ = some (.int .i64 th)) :
    Calls Tryz.prog 59 #[.slice A n c, .func (.func 60) #[] #[.pointer (some ⟨b1, 0, none⟩), .pointer (some ⟨b2, 0, none⟩)]] w fun e w' => e = .returned (.int .i64 (idxS (hitS id th) L)) ∧ Below w.heap.size w w' := by
  have hl := hr.1
  have HR := Lib.hid hr
  have lb1 := World.block_lt_of_cell? w _ hc1
  have lb2 := World.block_lt_of_cell? w _ hc2
  have HC1 := Lib.hid hc1
  have HC2 := Lib.hid hc2
  have HF := Lib.hid part1_ok
  clear hr hc1 hc2
  have qa := alloc_cells
  have qf := alloc_frozens
  go_enter Tryz.func59, Tryz.ntmps59
  go_wp2_with fail
  go_loopw [8] (fun v wr => ∃ k : Nat, k ≤ n ∧ v = .int .i64 k ∧ (∀ j, j < k → hitS id th (L.getD j default) = false) ∧ Below w.heap.size w wr) (fun v _ => n - (intOf v).toNat)
  case atStart => exact ⟨0, Nat.zero_le _, rfl, fun j hj => absurd hj (by omega), (by repeat (first | (with_reducible exact Below.refl _ _) | ((with_reducible refine Below.alloc ?_ ?_ _); rotate_left; (next => ((try dsimp only); (try simp only [World.size_alloc, World.size_setCell, World.size_drew]); omega))) | ((with_reducible refine Below.setCell ?_ ?_ _); rotate_left; (next => ((try dsimp only); (try simp only [World.size_alloc, World.size_setCell, World.size_drew]); omega))) | (with_reducible refine Below.drew ?_) | (refine Below.trans ?_ (by assumption))))⟩
  case round =>
    obtain ⟨k, hk, rfl, hno, bel⟩ := hrel
    have sz0 := bel.size
    have cb1 : wr.cell? ⟨b1, 0, none⟩ = some (.string id) := (bel.cell (p := ⟨b1, 0, none⟩) lb1).trans HC1.out
    have cb2 : wr.cell? ⟨b2, 0, none⟩ = some (.int .i64 th) := (bel.cell (p := ⟨b2, 0, none⟩) lb2).trans HC2.out
    have bz1 : b1 < wr.heap.size := by omega
    have bz2 : b2 < wr.heap.size := by omega
    by_cases hlt : k < n
    · obtain ⟨b, off, rfl, lb, hp⟩ := (HR.out.below bel).at hlt
      obtain ⟨u, huk⟩ : ∃ u, L.getD k default = u := ⟨_, rfl⟩
      rw [huk] at hp
      obtain ⟨k0, k1, k2⟩ := hp
      have B0 := Lib.hid bel
      obtain ⟨r1, hr1⟩ : ∃ r, (u.id.toList == id.toList) = r := ⟨_, rfl⟩
      obtain ⟨r2, hr2⟩ : ∃ r, (u.theta == th) = r := ⟨_, rfl⟩
      have hh : hitS id th u = (r1 && r2) := by unfold hitS; rw [hr1, hr2]
      have HR1 := Lib.hid hr1
      have HR2 := Lib.hid hr2
      obtain ⟨r, hrr⟩ : ∃ r, (r1 && r2) = r := ⟨_, rfl⟩
      rw [hrr] at hh
      have HRR := Lib.hid hrr
      cases r with
      | true =>
        have HKi := Lib.hid (idxS_some (p := hitS id th) (L := L) (k := k) (by omega) (by rw [huk]; exact hh) hno)
        clear bel hno huk hh hr1 hr2 hrr
        go_wp2_with fail
        refine (HF.out _ id _ th _ b1 b2 r1 r2 true _ cb1 bz1 cb2 bz2 HR1.out HR2.out HRR.out).mono ?_
        rintro e w1 ⟨rfl, hb1⟩
        have z1 := hb1.size
        have c1 := Below.cells hb1
        have f1 := Below.frozens hb1
        try simp only [World.size_alloc, World.size_setCell, World.size_drew] at z1 c1 f1
        go_wp2_with fail
        go_ret
        exact ⟨by rw [HKi.out]; rfl, B0.out.trans (Below.mono hb1 sz0)⟩
      | false =>
        have HNo := Lib.hid (show ∀ j, j < k + 1 → hitS id th (L.getD j default) = false from fun j hj => by
          rcases Nat.lt_or_ge j k with c | c
          · exact hno j c
          · obtain rfl : j = k := by omega
            rw [huk]; exact hh)
        clear bel hno huk hh hr1 hr2 hrr
        go_wp2_with fail
        refine (HF.out _ id _ th _ b1 b2 r1 r2 false _ cb1 bz1 cb2 bz2 HR1.out HR2.out HRR.out).mono ?_
        rintro e w1 ⟨rfl, hb1⟩
        have z1 := hb1.size
        have c1 := Below.cells hb1
        have f1 := Below.frozens hb1
        try simp only [World.size_alloc, World.size_setCell, World.size_drew] at z1 c1 f1
        go_wp2_with fail
        go_roundw
        case rel => exact ⟨k + 1, by omega, by go_num, HNo.out, B0.out.trans (Below.mono hb1 sz0)⟩
        case measure => simp [intOf]; omega
    · obtain rfl : n = k := by omega
      have HKi := Lib.hid (idxS_none (p := hitS id th) (L := L) (fun j hj => hno j (by omega)))
      clear hno
      go_wp2_with fail
      go_ret
      exact ⟨by rw [HKi.out]; rfl, bel⟩
set_option maxHeartbeats 4000000 in
theorem contains_sub (A : Option Addr) (n c : Nat) (L : List Sub) (id : ByteArray) (th : Int) (b1 b2 : Nat) (w : World) (hr : SRow w A n L) (hn : n ≤ 1000) (hc1 : w.cell? ⟨b1, 0, none⟩ = some (.string id)) (hc2 : w.cell? ⟨b2, 0, none⟩ = some (.int .i64 th)) :
    Calls Tryz.prog 57 #[.slice A n c, .func (.func 58) #[] #[.pointer (some ⟨b1, 0, none⟩), .pointer (some ⟨b2, 0, none⟩)]] w fun e w' => e = .returned (.bool (decide (0 ≤ idxS (hitS id th) L))) ∧ Below w.heap.size w w' := by
  have HI := Lib.hid (index_join A n c L id th b1 b2 w hr hn hc1 hc2)
  obtain ⟨i, hi⟩ : ∃ i, idxS (hitS id th) L = i := ⟨_, rfl⟩
  rw [hi] at HI ⊢
  clear hr hc1 hc2 hi
  go_enter Tryz.func57, Tryz.ntmps57
  go_wp2_with fail
  refine HI.out.mono ?_
  rintro e w1 ⟨rfl, hb1⟩
  go_wp2_with fail
  go_ret
  exact ⟨rfl, hb1⟩
end Go.Proofs.YtpomdnglknbanaaGreat
namespace Go.Proofs.YtpomdnglknbanaaGreat
open Go Go.RowKit
theorem info_sub : (Tryz.prog.info? 53).map (fun i => (i.zero, i.size, i.bytes)) = some (some (.agg #[.string ⟨#[]⟩, .int .i64 0, .bool false]), 3, 32) := by kernel_rfl
theorem info_subs : Tryz.prog.underlying 54 = some (.slice 53) := by kernel_rfl
def zeroU : Value := .agg #[.string ⟨#[]⟩, .int .i64 0, .bool false]
theorem zeroU_cells : zeroU.cells.size = 3 := rfl
theorem zeroU_one : ∀ v ∈ zeroU.cells, v.oneCell' = true := by
  intro v hv
  simp [zeroU, Value.cells] at hv
  rcases hv with rfl | rfl | rfl <;> rfl
theorem zeroU_run : ∀ w, (zeroValue 53).run Tryz.prog w = .ok zeroU w := Tryz.zeroValue53
set_option maxRecDepth 100000 in
set_option maxHeartbeats 4000000 in
theorem delS_ok (g n c i base : Nat) (xs : List Value) (w : World) (own : w.ownsRow base 53 3 (.slice (some ⟨g, 0, none⟩) n c) n xs) (hxs : ∀ u ∈ xs, u.oneCell' = true) (hi : i < n) (hn : n ≤ 1000000) :
    Calls Tryz.prog 61 #[.slice (some ⟨g, 0, none⟩) n c, .int .i64 i, .int .i64 ((i + 1 : Nat) : Int)] w fun e w' => e = .returned (.slice (some ⟨g, 0, none⟩) (n - 1) c) ∧ w'.ownsRow base 53 3 (.slice (some ⟨g, 0, none⟩) (n - 1) c) (n - 1) (xs.take (i * 3) ++ xs.drop ((i + 1) * 3)) ∧ w.grownBy w' (some g) := by
  have hxl := own.1
  rcases own.2 with ⟨h, _⟩ | ⟨g', c', cur, h, hbg, hg, hnc, hcm, hcs, htk⟩
  · cases h
  simp only [Value.slice.injEq, Option.some.injEq, Addr.mk.injEq, and_true, true_and] at h
  obtain ⟨rfl, rfl⟩ := h
  unfold maxLen at hcm
  obtain ⟨m, hm⟩ : ∃ m, n = i + 1 + m := ⟨n - i - 1, by omega⟩
  obtain ⟨j, hj⟩ : ∃ j, i + 1 = j := ⟨_, rfl⟩
  obtain ⟨news, hnews⟩ : ∃ news, xs.drop ((i + 1) * 3) = news := ⟨_, rfl⟩
  have hnl : news.length = m * 3 := by rw [← hnews, List.length_drop, hxl]; omega
  have hcl : cur.toList.length = c * 3 := by simpa using hcs
  have hcurj : ∀ t u, news[t]? = some u → cur[j * 3 + t]? = some u := fun t u hu => by
    rw [← hnews, List.getElem?_drop, ← htk, List.getElem?_take] at hu
    split at hu
    · rw [hj] at hu; simpa using hu
    · cases hu
  have hcell : ∀ q, w.drew.cell? ⟨g, q, none⟩ = cur[q]? := fun q => cell_of_row (w := w) _ _ _ _ _ hg
  have hfz : ∀ q, w.drew.frozen? ⟨g, q, none⟩ = false := fun q => by show w.frozen? _ = false; simp [World.frozen?, hg]
  obtain ⟨Ad, hA, hsrc⟩ : ∃ Ad : Addr, (if c = j then some (⟨g, 0, none⟩ : Addr) else some ⟨g, j * 3, none⟩) = some Ad ∧ Hid (∀ t u, news[t]? = some u → w.drew.cell? (Ad.add t) = some u) := by
    by_cases h : c = j
    · refine ⟨⟨g, 0, none⟩, by simp [h], fun t u hu => ?_⟩
      have h0 : news.length = 0 := by rw [hnl]; omega
      rw [List.length_eq_zero_iff.1 h0] at hu
      simp at hu
    · refine ⟨⟨g, j * 3, none⟩, by simp [h], fun t u hu => ?_⟩
      rw [Addr.add_lit, hcell]
      exact hcurj t u hu
  have s1 : Hid (news.length = m * 3) := hnl
  have s2 : Hid (∀ u ∈ news, u.oneCell' = true) := fun u hu => hxs u (by rw [← hnews] at hu; exact List.mem_of_mem_drop hu)
  have s3 : Hid (∀ t, t < news.length → (w.drew.cell? ⟨g, 0 + i * 3 + t, none⟩).isSome = true ∧ w.drew.frozen? ⟨g, 0 + i * 3 + t, none⟩ = false) := fun t ht => by
    rw [hnl] at ht
    refine ⟨?_, hfz _⟩
    rw [hcell, Nat.zero_add, Array.getElem?_eq_getElem (by omega)]; rfl
  obtain ⟨W1, hW1⟩ : ∃ W1, W1 = w.drew.setCells g (0 + i * 3) news := ⟨_, rfl⟩
  have hg1 : w.drew.heap[g]? = some (.cells cur.toList.toArray 53 (0, 0)) := by rw [Array.toArray_toList]; exact hg
  have G1 : Hid (W1.heap[g]? = some (.cells (splice cur.toList (i * 3) news).toArray 53 (0, 0))) := by
    have := setCells_at news (0 + i * 3) cur.toList w.drew hg1 (by rw [hnl, hcl]; omega)
    show W1.heap[g]? = _
    rw [hW1, this, Nat.zero_add]
  have only1 := setCells_only (g := g) news (0 + i * 3) w.drew
  rw [← hW1] at only1
  have GR1 : Hid (w.grownBy W1 (some g)) := ⟨only1.os, only1.tape, only1.output, Nat.le_of_eq only1.size.symm, fun k _ hk => only1.block k (fun e => hk (by rw [e]))⟩
  have s4 : (splice cur.toList (i * 3) news).length = c * 3 := by rw [length_splice _ _ _ (by rw [hnl, hcl]; omega), hcl]
  have hW : Hid (W1 = w.drew.setCells g (0 + i * 3) news) := hW1
  have hic : i ≤ c := by omega
  have hjc : j ≤ c := by omega
  have hjn : j ≤ n := by omega
  have hij : ¬ i = j := by omega
  have hij2 : i ≤ j := by omega
  have hne : ((i : Int) == (j : Int)) = false := by simp; omega
  have e1 : n - j = m := by omega
  have e2 : c - i - 1 = c - j := by omega
  obtain ⟨i0, hi0, hz0, hz1, hz2⟩ := info_parts info_sub
  have HTk : Hid (cur.toList.take (n * 3) = xs) := htk
  have HSp : Hid ((splice cur.toList (i * 3) news).take ((n - 1) * 3) = xs.take (i * 3) ++ news) := by
    show _ = _
    rw [show (n - 1) * 3 = i * 3 + m * 3 by omega, splice_take (by omega), List.take_append_of_le_length (by omega), List.take_of_length_le (l := news) (by omega), ← htk, List.take_take, Nat.min_eq_left (by omega)]
  have X1 := Lib.hid hnews
  have X2 := Lib.hid hcl
  have X3 := Lib.hid hcs
  have X4 := Lib.hid hj
  have X5 := Lib.hid hm
  rw [hj]
  clear hW1 own hcurj hcell hfz hg hg1 htk hnews hxs hnl hcl hcs only1 hxl hj hm
  obtain ⟨W2, hcl2, G2, only2⟩ := run_clear_splice (P := Tryz.prog) W1 54 0 53 zeroU 3 info_subs zeroU_run zeroU_cells zeroU_one (by omega) (some ⟨g, (i + m) * 3, none⟩) (n - (i + m)) (c - (i + m)) g ((i + m) * 3) _ _ G1.out (fun _ => rfl) (by have := X5.out; omega)
  have G2' := Lib.hid G2
  have GR2 := Lib.hid (grown_trans GR1.out only2.grown)
  clear G2 only2
  go_enter Tryz.func61, Tryz.ntmps61
  go_wp2_with fail
  go_region_law (refine step_append_room rfl (.tmp 22) (.tmp 25) 54 rfl 53 i0 3 info_subs hi0 hz1 g 0 i c (by simp [Act.eval, Act.put]) Ad m (c - j) news (by simp [Act.eval, Act.put, *]) s1.out hsrc.out s2.out (by omega) s3.out ?_; rw [← hW.out])
  all_goals
    go_wp2_with fail
    go_ret
    have hm := X5.out
    have hcl := X2.out
    have hsl := length_splice (splice cur.toList (i * 3) news) ((i + m) * 3) (zeros zeroU.cells (n - (i + m))) (by rw [zeros_len, zeroU_cells, s4]; omega)
    have hrs : (splice (splice cur.toList (i * 3) news) ((i + m) * 3) (zeros zeroU.cells (n - (i + m)))).take ((n - 1) * 3) = xs.take (i * 3) ++ xs.drop (j * 3) := by
      rw [show (n - 1) * 3 = (i + m) * 3 + 0 by omega, splice_take (by omega), List.take_zero, List.append_nil, show (i + m) * 3 = (n - 1) * 3 by omega, HSp.out, ← X1.out, X4.out]
    refine ⟨by rw [show n - 1 = i + m by omega]; rfl, ⟨?_, .inr ⟨g, c, _, rfl, hbg, G2'.out, by omega, by unfold maxLen; omega, by simpa [s4] using hsl, by simpa using hrs⟩⟩, GR2.out⟩
    rw [← hrs, List.length_take, hsl, s4]; omega
end Go.Proofs.YtpomdnglknbanaaGreat
namespace Go.Proofs.YtpomdnglknbanaaGreat
open Go Go.RowKit
theorem subsC_app (L M : List Sub) : subsC (L ++ M) = subsC L ++ subsC M := by simp [subsC]
theorem subsC_cut (L : List Sub) (k : Nat) (hk : k < L.length) : (subsC L).take (k * 3) ++ (subsC L).drop ((k + 1) * 3) = subsC (L.eraseIdx k) := by
  rw [List.eraseIdx_eq_take_drop_succ, subsC_app]
  have h1 : subsC L = subsC (L.take k) ++ subsC (L.drop k) := by rw [← subsC_app, List.take_append_drop]
  have h2 : subsC L = subsC (L.take (k + 1)) ++ subsC (L.drop (k + 1)) := by rw [← subsC_app, List.take_append_drop]
  have l1 : (subsC (L.take k)).length = k * 3 := by rw [subsC_len, List.length_take, Nat.min_eq_left (by omega)]
  have l2 : (subsC (L.take (k + 1))).length = (k + 1) * 3 := by rw [subsC_len, List.length_take, Nat.min_eq_left (by omega)]
  congr 1
  · rw [h1, ← l1, List.take_left]
  · rw [h2, ← l2, List.drop_left]
/-- Another row of subs in the place of the old. -/
theorem NRep.setSubs {w w1 : World} {b g c : Nat} {s : NSt} {f : Nat → Prop} {L : List Sub} (h : NRep w b s f) (h9 : w.cell? ⟨b, 9, none⟩ = some (.slice (some ⟨g, 0, none⟩) s.subs.length c)) (hg : w.grownBy w1 (some g)) (ho : w1.ownsRow 0 53 3 (.slice (some ⟨g, 0, none⟩) L.length c) L.length (subsC L)) :
    NRep (w1.setCell ⟨b, 9, none⟩ (.slice (some ⟨g, 0, none⟩) L.length c)) b { s with subs := L } f ∧ Kept f w (w1.setCell ⟨b, 9, none⟩ (.slice (some ⟨g, 0, none⟩) L.length c)) := by
  obtain ⟨A, n, c0, S, h1, h2, h3, h4, h5, h6⟩ := h
  obtain ⟨_, _, _, _, _, _, _, _, _, k9⟩ := h1.cells
  rw [k9] at h9
  cases h9
  obtain ⟨hfg, hgb⟩ := h5 g rfl
  have hz := hg.size
  have blk : ∀ x, x < w.heap.size → x ≠ g → w1.heap[x]? = w.heap[x]? := fun x hx hn => hg.block x hx (fun e => hn (by cases e; rfl))
  refine ⟨⟨A, n, c0, _, ((h1.same (blk b (h6 b h2) (Ne.symm hgb))).setSubs _), h2, ?_, own_elsewhere ho (fun e => hgb (by cases e; rfl)) _ _, fun x hx => ?_, fun x hx => ?_⟩, ?_⟩
  · refine (h3.same ⟨by simpa using hz, fun x hx hfx => (Below.heap_setCell _ _ _ _ (fun e => hfx.2.1 e)).trans (blk x hx (fun e => hfx.2.2 (by rw [e]; rfl)))⟩).imp fun x hx => ⟨hx.1, hx.2.1, fun e => hx.2.2 (by cases e; rfl)⟩
  · cases hx; exact ⟨hfg, hgb⟩
  · have := h6 x hx
    simp only [World.size_setCell]; omega
  · exact ⟨hg.os, hg.tape, hg.output, by simpa using hz, fun x hx hfx => (Below.heap_setCell _ _ _ _ (fun e => hfx (by rw [e]; exact h2))).trans (blk x hx (fun e => hfx (by rw [e]; exact hfg)))⟩
theorem NRep.subRow {w : World} {b : Nat} {s : NSt} {f : Nat → Prop} (h : NRep w b s f) : ∃ A c, w.cell? ⟨b, 9, none⟩ = some (.slice A s.subs.length c) ∧ w.ownsRow 0 53 3 (.slice A s.subs.length c) s.subs.length (subsC s.subs) ∧ b < w.heap.size ∧ ∀ o, w.frozen? ⟨b, o, none⟩ = false := by
  obtain ⟨A, n, c0, S, h1, h2, h3, h4, h5, h6⟩ := h
  have hform := own_form h4
  obtain ⟨SA, Sc, rfl, _, _, _⟩ := hform
  obtain ⟨_, _, _, _, _, _, _, _, _, k9⟩ := h1.cells
  exact ⟨SA, Sc, k9, h4, h1.lt, h1.frozen⟩
set_option maxRecDepth 100000 in
set_option maxHeartbeats 8000000 in
theorem npart_none (b : Nat) (s : NSt) (f : Nat → Prop) (id : ByteArray) (th : Int) (w : World) (h : NRep w b s f) (ok : NOK s) (hx : idxS (hitS id th) s.subs = -1) :
    Calls Tryz.prog 38 #[.pointer (some ⟨b, 0, none⟩), .string id, .int .i64 th] w fun e w' => e = .returned (.int .i64 4) ∧ Below w.heap.size w w' := by
  obtain ⟨A, c, k9, own, hbl, kf⟩ := h.subRow
  have h8 := ok.subs
  have SR := Lib.hid (srow_own own rfl)
  have HI := Lib.hid (fun w' b1 b2 (hr : SRow w' A s.subs.length s.subs) h1 h2 => index_part A s.subs.length c s.subs id th b1 b2 w' hr (by omega) h1 h2)
  rw [hx] at HI
  clear h ok own hx
  have qa := alloc_cells
  have qf := alloc_frozens
  go_enter Tryz.func38, Tryz.ntmps38
  go_wp2_with fail
  refine (HI.out _ w.heap.size (w.heap.size + 1) (SR.out.below (by repeat (first | (with_reducible exact Below.refl _ _) | ((with_reducible refine Below.alloc ?_ ?_ _); rotate_left; (next => ((try dsimp only); (try simp only [World.size_alloc, World.size_setCell, World.size_drew]); omega))) | ((with_reducible refine Below.setCell ?_ ?_ _); rotate_left; (next => ((try dsimp only); (try simp only [World.size_alloc, World.size_setCell, World.size_drew]); omega))) | (with_reducible refine Below.drew ?_) | (refine Below.trans ?_ (by assumption))))) (by simp [go_sem, ↓IntWalk.iteOmega, *]) (by simp [go_sem, ↓IntWalk.iteOmega, *])).mono ?_
  rintro e w1 ⟨rfl, hb1⟩
  have z1 := hb1.size
  have c1 := Below.cells hb1
  have f1 := Below.frozens hb1
  try simp only [World.size_alloc, World.size_setCell, World.size_drew] at z1 c1 f1
  go_wp2_with fail
  go_ret
  exact ⟨rfl, (by repeat (first | (with_reducible exact Below.refl _ _) | ((with_reducible refine Below.alloc ?_ ?_ _); rotate_left; (next => ((try dsimp only); (try simp only [World.size_alloc, World.size_setCell, World.size_drew]); omega))) | ((with_reducible refine Below.setCell ?_ ?_ _); rotate_left; (next => ((try dsimp only); (try simp only [World.size_alloc, World.size_setCell, World.size_drew]); omega))) | (with_reducible refine Below.drew ?_) | ((with_reducible refine Below.trans ?_ (Below.mono hb1 ?_)); rotate_left; (next => ((try dsimp only); (try simp only [World.size_alloc, World.size_setCell, World.size_drew]); omega)))))⟩
set_option maxRecDepth 100000 in
set_option maxHeartbeats 8000000 in
theorem npart_ok (b : Nat) (s : NSt) (f : Nat → Prop) (id : ByteArray) (th : Int) (k : Nat) (w : World) (h : NRep w b s f) (ok : NOK s) (hx : idxS (hitS id th) s.subs = (k : Int)) (hk : k < s.subs.length) :
    Calls Tryz.prog 38 #[.pointer (some ⟨b, 0, none⟩), .string id, .int .i64 th] w fun e w' => e = .returned (.int .i64 0) ∧ NRep w' b { s with subs := s.subs.eraseIdx k } f ∧ Kept f w w' := by
  have HRep := Lib.hid h
  obtain ⟨A, c, k9, own, hbl, kf⟩ := h.subRow
  have h8 := ok.subs
  have SR := Lib.hid (srow_own own rfl)
  have HI := Lib.hid (fun w' b1 b2 (hr : SRow w' A s.subs.length s.subs) h1 h2 => index_part A s.subs.length c s.subs id th b1 b2 w' hr (by omega) h1 h2)
  rw [hx] at HI
  have hform := own_form own
  obtain ⟨g, rfl⟩ : ∃ g, A = some ⟨g, 0, none⟩ := by
    rcases own.2 with ⟨_, h0⟩ | ⟨g, c', cur, he, _⟩
    · omega
    · cases he; exact ⟨g, rfl⟩
  have hgl : g < w.heap.size := (own.lt g rfl).2
  have HD := Lib.hid (fun w' (ho : w'.ownsRow 0 53 3 (.slice (some ⟨g, 0, none⟩) s.subs.length c) s.subs.length (subsC s.subs)) => delS_ok g s.subs.length c k 0 (subsC s.subs) w' ho (subsC_one _) hk (by omega))
  have OWN := Lib.hid own
  have HL := Lib.hid (show (s.subs.eraseIdx k).length = s.subs.length - 1 by rw [List.length_eraseIdx, if_pos hk])
  have HC := Lib.hid (subsC_cut s.subs k hk)
  have HKey := Lib.hid k9
  have kn : ¬ (k : Int) < 0 := by omega
  have knd : decide ((k : Int) < 0) = false := by simp
  have k1 : IntKind.i64.wrap ((k : Int) + 1) = ((k + 1 : Nat) : Int) := by rw [IntWalk.i64_in _ (by omega)]; omega
  obtain ⟨n, hn⟩ : ∃ n, s.subs.length = n := ⟨_, rfl⟩
  rw [hn] at k9 h8 HL HKey HD OWN HI SR
  have HN := Lib.hid hn
  clear h ok own hx hform hk hn
  have qa := alloc_cells
  have qf := alloc_frozens
  go_enter Tryz.func38, Tryz.ntmps38
  go_wp2_with fail
  refine (HI.out _ w.heap.size (w.heap.size + 1) (SR.out.below (by repeat (first | (with_reducible exact Below.refl _ _) | ((with_reducible refine Below.alloc ?_ ?_ _); rotate_left; (next => ((try dsimp only); (try simp only [World.size_alloc, World.size_setCell, World.size_drew]); omega))) | ((with_reducible refine Below.setCell ?_ ?_ _); rotate_left; (next => ((try dsimp only); (try simp only [World.size_alloc, World.size_setCell, World.size_drew]); omega))) | (with_reducible refine Below.drew ?_) | (refine Below.trans ?_ (by assumption))))) (by simp [go_sem, ↓IntWalk.iteOmega, *]) (by simp [go_sem, ↓IntWalk.iteOmega, *])).mono ?_
  rintro e w1 ⟨rfl, hb1⟩
  have z1 := hb1.size
  have c1 := Below.cells hb1
  have f1 := Below.frozens hb1
  try simp only [World.size_alloc, World.size_setCell, World.size_drew] at z1 c1 f1
  go_wp2_with fail
  have hbw : Below w.heap.size w w1 := (by repeat (first | (with_reducible exact Below.refl _ _) | ((with_reducible refine Below.alloc ?_ ?_ _); rotate_left; (next => ((try dsimp only); (try simp only [World.size_alloc, World.size_setCell, World.size_drew]); omega))) | ((with_reducible refine Below.setCell ?_ ?_ _); rotate_left; (next => ((try dsimp only); (try simp only [World.size_alloc, World.size_setCell, World.size_drew]); omega))) | (with_reducible refine Below.drew ?_) | ((with_reducible refine Below.trans ?_ (Below.mono hb1 ?_)); rotate_left; (next => ((try dsimp only); (try simp only [World.size_alloc, World.size_setCell, World.size_drew]); omega)))))
  have O1 := Lib.hid (own_below OWN.out hbw)
  have R1 := Lib.hid (HRep.out.below hbw)
  have K1 := Lib.hid (Kept.of_below (f := f) hbw)
  have c9 := (hbw.cell (p := ⟨b, 9, none⟩) hbl).trans k9
  have HK9 := Lib.hid c9
  have hbl1 : b < w1.heap.size := Nat.lt_of_lt_of_le hbl hbw.size
  have fz1 : ∀ o, w1.frozen? ⟨b, o, none⟩ = false := fun o => (World.frozen?_of_block (hbw.block b hbl)).trans (kf o)
  clear hbw hb1 k9 kf
  go_wp2_with fail
  refine (HD.out _ O1.out).mono ?_
  rintro e w2 ⟨rfl, own2, gr2⟩
  have hgb : ¬ b = g := fun e => by
    obtain ⟨_, _, _, _, _, _, _, _, _, h9⟩ := (R1.out.node).choose_spec.choose_spec.choose_spec.choose_spec.1.cells
    obtain ⟨A, n', c0, S, h1, h2, h3, h4, h5, h6⟩ := R1.out
    obtain ⟨_, _, _, _, _, _, _, _, _, j9⟩ := h1.cells
    rw [j9] at c9
    cases c9
    exact (h5 g rfl).2 e.symm
  rw [HC.out] at own2
  rw [← HL.out] at own2
  have NR := R1.out.setSubs (L := s.subs.eraseIdx k) (by rw [HN.out]; exact HK9.out) gr2 own2
  rw [HL.out] at NR
  have NR2 := Lib.hid NR.1
  have NK2 := Lib.hid (K1.out.trans NR.2 (fun x _ hx => hx))
  have fz2 : ∀ o, w2.frozen? ⟨b, o, none⟩ = false := fun o => (World.frozen?_of_block (gr2.block b hbl1 (fun e => hgb (by cases e; rfl)))).trans (fz1 o)
  have cc2 : w2.cell? ⟨b, 9, none⟩ = some (.slice (some ⟨g, 0, none⟩) n c) := (World.cell?_of_block (a := ⟨b, 9, none⟩) (gr2.block b hbl1 (fun e => hgb (by cases e; rfl)))).trans c9
  clear NR own2 gr2 c9 fz1 hgb
  go_wp2_with fail
  go_ret
  exact ⟨rfl, NR2.out, NK2.out⟩
end Go.Proofs.YtpomdnglknbanaaGreat
namespace Go.Proofs.YtpomdnglknbanaaGreat
open Go Go.RowKit
/-- The row of subs has grown by one. -/
theorem NRep.growSubs {w w0 w1 : World} {b gg cap n : Nat} {s : NSt} {f : Nat → Prop} {L : List Sub} {A : Option Addr} {c : Nat} (h : NRep w b s f) (hb : Below w.heap.size w w0) (h9 : w.cell? ⟨b, 9, none⟩ = some (.slice A n c)) (hg : w0.grownBy w1 (Value.slice A n c).ownBlock)
    (ho : w1.ownsRow 0 53 3 (.slice (some ⟨gg, 0, none⟩) L.length cap) L.length (subsC L)) (hat : (Value.slice A n c).ownBlock = some gg ∨ gg = w0.heap.size) (hlt : gg < w1.heap.size) :
    NRep (w1.setCell ⟨b, 9, none⟩ (.slice (some ⟨gg, 0, none⟩) L.length cap)) b { s with subs := L } (ext f w.heap.size w1.heap.size) ∧ Kept f w (w1.setCell ⟨b, 9, none⟩ (.slice (some ⟨gg, 0, none⟩) L.length cap)) := by
  obtain ⟨A0, n0, c0, S, h1, h2, h3, h4, h5, h6⟩ := h
  obtain ⟨_, _, _, _, _, _, _, _, _, k9⟩ := h1.cells
  rw [k9] at h9
  cases h9
  have hz0 := hb.size
  have hz := hg.size
  have hbl := h6 b h2
  have blk : ∀ x, x < w.heap.size → (Value.slice A n c).ownBlock ≠ some x → w1.heap[x]? = w.heap[x]? := fun x hx hn => (hg.block x (by omega) (Ne.symm hn)).trans (hb.block x hx)
  have bn : (Value.slice A n c).ownBlock ≠ some b := fun e => (h5 b e).2 rfl
  have ggb : gg ≠ b := fun e => by
    subst e
    rcases hat with e | e
    · exact bn e
    · omega
  refine ⟨⟨A0, n0, c0, _, ((h1.same (blk b hbl bn)).setSubs _), .inl h2, ?_, own_elsewhere ho (fun e => ggb (by cases e; rfl)) _ _, fun x hx => ?_, fun x hx => ?_⟩, ?_⟩
  · refine (h3.same ⟨by simp only [World.size_setCell]; omega, fun x hx hfx => (Below.heap_setCell _ _ _ _ (fun e => hfx.2.1 e)).trans (blk x hx hfx.2.2)⟩).imp fun x hx => ⟨.inl hx.1, hx.2.1, fun e => ?_⟩
    have e' : gg = x := by cases e; rfl
    subst e'
    rcases hat with e2 | e2
    · exact hx.2.2 e2
    · have := h6 gg hx.1; omega
  · have e' : gg = x := by cases hx; rfl
    subst e'
    refine ⟨?_, ggb⟩
    rcases hat with e2 | e2
    · exact .inl (h5 gg e2).1
    · exact .inr ⟨by omega, hlt⟩
  · simp only [World.size_setCell]
    rcases hx with hx | hx
    · have := h6 x hx; omega
    · exact hx.2
  · refine ⟨hg.os.trans hb.os, hg.tape.trans hb.tape, hg.output.trans hb.output, by simp only [World.size_setCell]; omega, fun x hx hfx => (Below.heap_setCell _ _ _ _ (fun e => hfx (by rw [e]; exact h2))).trans (blk x hx (fun e => hfx (h5 x e).1))⟩
theorem NRep.subOff {w : World} {b n : Nat} {s : NSt} {f : Nat → Prop} {A : Option Addr} {c : Nat} (h : NRep w b s f) (h9 : w.cell? ⟨b, 9, none⟩ = some (.slice A n c)) : some b ≠ (Value.slice A n c).ownBlock := fun e => by
  obtain ⟨A0, n0, c0, S, h1, h2, h3, h4, h5, h6⟩ := h
  obtain ⟨_, _, _, _, _, _, _, _, _, k9⟩ := h1.cells
  rw [k9] at h9
  cases h9
  exact (h5 b e.symm).2 rfl
def joinS (s : NSt) (id : ByteArray) (th : Int) : NSt := { s with subs := s.subs ++ [⟨id, th, false⟩] }
theorem NOK.join {s : NSt} (h : NOK s) (id : ByteArray) (th : Int) (h8 : s.subs.length < 8) : NOK (joinS s id th) := ⟨h.id, h.inc, h.every, h.cap, h.least, h.now, h.seq, h.drops, h.tab, h.wins, by show (s.subs ++ [_]).length ≤ 8; simp; omega⟩
set_option maxRecDepth 100000 in
set_option maxHeartbeats 16000000 in
theorem njoin_ok (b : Nat) (s : NSt) (f : Nat → Prop) (id : ByteArray) (th : Int) (w : World) (h : NRep w b s f) (ok : NOK s) (ht : 1 ≤ th ∧ th ≤ 60) (hid : has s.peers id = true) (hx : idxS (hitS id th) s.subs = -1) (h8 : s.subs.length < 8) :
    Calls Tryz.prog 37 #[.pointer (some ⟨b, 0, none⟩), .string id, .int .i64 th] w fun e w' => ∃ A' c' m, e = .returned (.tuple #[.slice A' (toldN (joinS s id th)).length c', .int .i64 0]) ∧ w'.ownsRow m 46 3 (.slice A' (toldN (joinS s id th)).length c') (toldN (joinS s id th)).length (notesC (toldN (joinS s id th))) ∧
      NRep w' b { s with subs := toldS (joinS s id th) } (ext f w.heap.size m) ∧ w.heap.size ≤ m ∧ m ≤ w'.heap.size ∧ Kept f w w' := by
  have HRep := Lib.hid h
  obtain ⟨A, c, k9, own, hbl, kf⟩ := h.subRow
  have SR := Lib.hid (srow_own own rfl)
  have HC := Lib.hid (fun w' b1 b2 (hr : SRow w' A s.subs.length s.subs) h1 h2 => contains_sub A s.subs.length c s.subs id th b1 b2 w' hr (by omega) h1 h2)
  rw [hx] at HC
  have HLv := Lib.hid (fun w' (h : NRep w' b s f) => nlevel_ok b s f id w' h ok (levN s id) 0 rfl (by rw [hid]; rfl))
  have HT := Lib.hid (fun f' w' (h : NRep w' b (joinS s id th) f') => told_ok b (joinS s id th) f' w' h (ok.join id th h8))
  obtain ⟨lvl, hlvl⟩ : ∃ x, levN s id = x := ⟨_, rfl⟩
  rw [hlvl] at HLv
  have OWN := Lib.hid own
  obtain ⟨n, hn⟩ : ∃ n, s.subs.length = n := ⟨_, rfl⟩
  rw [hn] at k9 h8 HC OWN SR
  have HN := Lib.hid hn
  have H9 := Lib.hid k9
  obtain ⟨t1, t2⟩ := ht
  have u1 : ¬ th < 1 := by omega
  have u2 : ¬ 60 < th := by omega
  have v1 : decide (th < 1) = false := by simp; omega
  have v2 : decide (60 < th) = false := by simp; omega
  have e8 : ((n : Int) == 8) = false := by simp; omega
  obtain ⟨i0, hi, hz0, hz1, hz2⟩ := info_parts info_sub
  clear h ok own hx hn hid hlvl
  have qa := alloc_cells
  have qf := alloc_frozens
  go_enter Tryz.func37, Tryz.ntmps37
  go_wp2_with fail
  refine (HLv.out _ (HRep.out.below (by repeat (first | (with_reducible exact Below.refl _ _) | ((with_reducible refine Below.alloc ?_ ?_ _); rotate_left; (next => ((try dsimp only); (try simp only [World.size_alloc, World.size_setCell, World.size_drew]); omega))) | ((with_reducible refine Below.setCell ?_ ?_ _); rotate_left; (next => ((try dsimp only); (try simp only [World.size_alloc, World.size_setCell, World.size_drew]); omega))) | (with_reducible refine Below.drew ?_) | (refine Below.trans ?_ (by assumption)))))).mono ?_
  rintro e w1 ⟨rfl, hb1⟩
  have hbw1 : Below w.heap.size w w1 := (by repeat (first | (with_reducible exact Below.refl _ _) | ((with_reducible refine Below.alloc ?_ ?_ _); rotate_left; (next => ((try dsimp only); (try simp only [World.size_alloc, World.size_setCell, World.size_drew]); omega))) | ((with_reducible refine Below.setCell ?_ ?_ _); rotate_left; (next => ((try dsimp only); (try simp only [World.size_alloc, World.size_setCell, World.size_drew]); omega))) | (with_reducible refine Below.drew ?_) | ((with_reducible refine Below.trans ?_ (Below.mono hb1 ?_)); rotate_left; (next => ((try dsimp only); (try simp only [World.size_alloc, World.size_setCell, World.size_drew]); omega)))))
  have x1 : w1.cell? ⟨w.heap.size, 0, none⟩ = some (.string id) := (hb1.cell (p := ⟨w.heap.size, 0, none⟩) (by simp; try omega)).trans (by simp [go_sem, ↓IntWalk.iteOmega, *])
  have y1 : w1.cell? ⟨w.heap.size + 1, 0, none⟩ = some (.int .i64 th) := (hb1.cell (p := ⟨w.heap.size + 1, 0, none⟩) (by simp; try omega)).trans (by simp [go_sem, ↓IntWalk.iteOmega, *])
  have z1 : w.heap.size + 2 ≤ w1.heap.size := by have := hb1.size; simp at this; omega
  have SR1 := Lib.hid (SR.out.below hbw1)
  have c91 := (hbw1.cell (p := ⟨b, 9, none⟩) hbl).trans k9
  have fz1 : ∀ o, w1.frozen? ⟨b, o, none⟩ = false := fun o => (World.frozen?_of_block (hbw1.block b hbl)).trans (kf o)
  have HB1 := Lib.hid hbw1
  have XY1 := Lib.hid (And.intro x1 y1)
  clear hb1 hbw1 k9 kf
  go_wp2_with fail
  refine (HC.out w1 w.heap.size (w.heap.size + 1) SR1.out XY1.out.1 XY1.out.2).mono ?_
  rintro e w2 ⟨rfl, hb2⟩
  have c92 := (hb2.cell (p := ⟨b, 9, none⟩) (by have : b < w1.heap.size := by omega
                                                exact this)).trans c91
  have x2 := (hb2.cell (p := ⟨w.heap.size, 0, none⟩) (by have : w.heap.size < w1.heap.size := by omega
                                                         exact this)).trans x1
  have y2 := (hb2.cell (p := ⟨w.heap.size + 1, 0, none⟩) (by have : w.heap.size + 1 < w1.heap.size := by omega
                                                             exact this)).trans y1
  have fz2 : ∀ o, w2.frozen? ⟨b, o, none⟩ = false := fun o => (World.frozen?_of_block (hb2.block b (by omega))).trans (fz1 o)
  have HB2 := Lib.hid (HB1.out.trans (Below.mono hb2 (by omega)))
  have z2 : w.heap.size + 2 ≤ w2.heap.size := by have := hb2.size; omega
  clear hb2 c91 x1 y1 fz1 z1
  go_wp2_with fail
  have kk : w2.drew.cell? ⟨b, 9, none⟩ = some (.slice A n c) ∧ w2.drew.cell? ⟨w.heap.size, 0, none⟩ = some (.string id) ∧ w2.drew.cell? ⟨w.heap.size + 1, 0, none⟩ = some (.int .i64 th) := ⟨c92, x2, y2⟩
  have M3 := Lib.hid kk
  have hbl2 : b < w2.heap.size := by omega
  have hx2 : w.heap.size < w2.heap.size := by omega
  have hy2 : w.heap.size + 1 < w2.heap.size := by omega
  have O2 := Lib.hid (own_below OWN.out HB2.out)
  have FZ2 := Lib.hid fz2
  have hob := Lib.hid (HRep.out.subOff H9.out)
  clear c92 x2 y2 fz2 HLv u1 u2 v1 v2 qa qf
  refine wp_region_M (fun w' => w'.cell? ⟨b, 9, none⟩ = some (.slice A n c) ∧ w'.cell? ⟨w.heap.size, 0, none⟩ = some (.string id) ∧ w'.cell? ⟨w.heap.size + 1, 0, none⟩ = some (.int .i64 th)) (fun j => decide (12 ≤ j)) 13 rfl (by kernel_rfl) ?_
  (refine wpAnyM_take (i := 0) (v := ?_) rfl (by kernel_rfl) (by kernel_rfl) (by kernel_rfl) (by kernel_rfl) (fun _ _ _ h => h) (Or.inl ⟨by rfl, ?_⟩) kk ?_; (rotate_left; (intro w hSw; (try dsimp only at hSw); go_simp; try with_reducible rfl)); (try simp only [Act.put, List.setIfInBounds_toArray, List.set_cons_zero, List.set_cons_succ]))
  (refine wpAnyM_take (i := 1) (v := ?_) rfl (by kernel_rfl) (by kernel_rfl) (by kernel_rfl) (by kernel_rfl) (fun _ _ _ h => h) (Or.inl ⟨by rfl, ?_⟩) kk ?_; (rotate_left; (intro w hSw; (try dsimp only at hSw); go_simp; try with_reducible rfl)); (try simp only [Act.put, List.setIfInBounds_toArray, List.set_cons_zero, List.set_cons_succ]))
  (refine wpAnyM_take (i := 2) (v := ?_) rfl (by kernel_rfl) (by kernel_rfl) (by kernel_rfl) (by kernel_rfl) (fun _ _ _ h => h) (Or.inl ⟨by rfl, ?_⟩) kk ?_; (rotate_left; (intro w hSw; (try dsimp only at hSw); go_simp; try with_reducible rfl)); (try simp only [Act.put, List.setIfInBounds_toArray, List.set_cons_zero, List.set_cons_succ]))
  (refine wpAnyM_take (i := 3) (v := ?_) rfl (by kernel_rfl) (by kernel_rfl) (by kernel_rfl) (by kernel_rfl) (fun _ _ _ h => h) (Or.inl ⟨by rfl, ?_⟩) kk ?_; (rotate_left; (intro w hSw; (try dsimp only at hSw); go_simp; try with_reducible rfl)); (try simp only [Act.put, List.setIfInBounds_toArray, List.set_cons_zero, List.set_cons_succ]))
  (refine wpAnyM_take (i := 4) (v := ?_) rfl (by kernel_rfl) (by kernel_rfl) (by kernel_rfl) (by kernel_rfl) (fun _ _ _ h => h) (Or.inl ⟨by rfl, ?_⟩) kk ?_; (rotate_left; (intro w hSw; (try dsimp only at hSw); go_simp; try with_reducible rfl)); (try simp only [Act.put, List.setIfInBounds_toArray, List.set_cons_zero, List.set_cons_succ]))
  (refine wpAnyM_take (i := 5) (v := ?_) rfl (by kernel_rfl) (by kernel_rfl) (by kernel_rfl) (by kernel_rfl) (fun _ _ _ h => h) (Or.inl ⟨by rfl, ?_⟩) kk ?_; (rotate_left; (intro w hSw; (try dsimp only at hSw); go_simp; try with_reducible rfl)); (try simp only [Act.put, List.setIfInBounds_toArray, List.set_cons_zero, List.set_cons_succ]))
  (refine wpAnyM_take (i := 6) (v := ?_) rfl (by kernel_rfl) (by kernel_rfl) (by kernel_rfl) (by kernel_rfl) (fun _ _ _ h => h) (Or.inl ⟨by rfl, ?_⟩) kk ?_; (rotate_left; (intro w hSw; (try dsimp only at hSw); go_simp; try with_reducible rfl)); (try simp only [Act.put, List.setIfInBounds_toArray, List.set_cons_zero, List.set_cons_succ]))
  (refine wpAnyM_take (i := 7) (v := ?_) rfl (by kernel_rfl) (by kernel_rfl) (by kernel_rfl) (by kernel_rfl) (fun _ _ _ h => h) (Or.inl ⟨by rfl, ?_⟩) kk ?_; (rotate_left; (intro w hSw; (try dsimp only at hSw); go_simp; try with_reducible rfl)); (try simp only [Act.put, List.setIfInBounds_toArray, List.set_cons_zero, List.set_cons_succ]))
  refine wpAnyM_one (i := 8) (by kernel_rfl) rfl (fun K hK => ?_)
  go_simp
  have al : ∀ p, p.block < w2.heap.size → ((w2.alloc (.cells #[.string id, .int .i64 th, .bool false] 53)).drew).cell? p = w2.cell? p := fun p hp => World.cell?_alloc_lt _ _ _ hp
  refine hK _ _ (fun _ => ⟨(al _ hbl2).trans M3.out.1, (al _ hx2).trans M3.out.2.1, (al _ hy2).trans M3.out.2.2⟩) ?_
  clear hK K
  refine wpAnyM_one (i := 9) (by kernel_rfl) rfl (fun K hK => ?_)
  refine step_append_lies _ (by rfl) _ _ _ (by rfl) 0 53 i0 _ 3 32 info_subs hi hz0 hz1 hz2 rfl (by omega) _ n (subsC s.subs) (by rfl) ((O2.out.alloc _).drew)
    ⟨w2.heap.size, 0, none⟩ 1 1 (subC ⟨id, th, false⟩) (by rfl) (by rfl) (World.news_of_block (cs := #[.string id, .int .i64 th, .bool false]) (t := 53) (fr := (0, 0)) (heap_alloc_new w2 _)) (by intro x hx; simp [subC] at hx; rcases hx with rfl | rfl | rfl <;> rfl)
    (by omega) (by unfold maxLen; omega) (by omega) (by omega) (w2.heap.size + 1) (by simp) ?_
  intro gg cap' wq ownq grq atq ltq
  have hLn : (s.subs ++ [(⟨id, th, false⟩ : Sub)]).length = n + 1 := by rw [List.length_append, HN.out]; rfl
  have hLc : subsC (s.subs ++ [(⟨id, th, false⟩ : Sub)]) = subsC s.subs ++ subC ⟨id, th, false⟩ := by rw [subsC_app]; simp [subsC]
  have hbw0 : Below w.heap.size w ((w2.alloc (.cells #[.string id, .int .i64 th, .bool false] 53)).drew) := Below.drew (HB2.out.alloc (by omega) _)
  have NR := HRep.out.growSubs (L := s.subs ++ [(⟨id, th, false⟩ : Sub)]) hbw0 H9.out grq (by rw [hLn, hLc]; exact ownq) (by simpa using atq) ltq
  rw [hLn] at NR
  have NR1 := Lib.hid NR.1
  have NK1 := Lib.hid NR.2
  have zq := grq.size
  simp only [World.size_alloc, World.size_drew] at zq
  have bq := grq.block b (by simp; omega) hob.out
  have mq : wq.cell? ⟨b, 9, none⟩ = some (.slice A n c) := (World.cell?_of_block (a := ⟨b, 9, none⟩) bq).trans ((al _ hbl2).trans M3.out.1)
  have fq : ∀ o, wq.frozen? ⟨b, o, none⟩ = false := fun o => (World.frozen?_of_block bq).trans ((World.frozen?_of_block (Below.heap_alloc w2 _ b hbl2)).trans (FZ2.out o))
  have far : ∀ x, w.heap.size ≤ x → x < w2.heap.size → wq.cell? ⟨x, 0, none⟩ = w2.cell? ⟨x, 0, none⟩ := fun x h1 h2 => (World.cell?_of_block (a := ⟨x, 0, none⟩) (grq.block x (by simp; omega) (fun e => by have := (OWN.out.lt x e.symm).2; omega))).trans (al _ h2)
  have S9 := And.intro mq (And.intro ((far _ (by omega) hx2).trans M3.out.2.1) ((far _ (by omega) hy2).trans M3.out.2.2))
  clear ownq grq atq bq al kk NR hLn hLc hbw0 far
  refine hK _ _ (fun _ => S9) ?_
  clear hK K
  (refine wpAnyM_take (i := 10) (v := ?_) rfl (by kernel_rfl) (by kernel_rfl) (by kernel_rfl) (by kernel_rfl) (fun _ _ _ h => h) (Or.inl ⟨by rfl, ?_⟩) S9 ?_; (rotate_left; (intro w hSw; (try dsimp only at hSw); go_simp; try with_reducible rfl)); (try simp only [Act.put, List.setIfInBounds_toArray, List.set_cons_zero, List.set_cons_succ]))
  (refine wpAnyM_take (i := 11) (v := ?_) rfl (by kernel_rfl) (by kernel_rfl) (by kernel_rfl) (by kernel_rfl) (fun _ _ _ h => h) (Or.inl ⟨by rfl, ?_⟩) S9 ?_; (rotate_left; (intro w hSw; (try dsimp only at hSw); go_simp; try with_reducible rfl)); (try simp only [Act.put, List.setIfInBounds_toArray, List.set_cons_zero, List.set_cons_succ]))
  clear S9
  refine wpAnyM_one (i := 12) (by kernel_rfl) rfl (fun K hK => ?_)
  go_simp
  refine hK _ _ (fun h => by cases h) ?_
  clear hK K
  refine wpAnyM_done (by kernel_rfl) ?_ _
  go_wp2_with fail
  refine (HT.out _ _ NR1.out).mono ?_
  rintro e w4 ⟨A', c', rfl, own4, nr4, k4⟩
  have OW4 := Lib.hid (own_mono own4 (show wq.heap.size ≤ _ by simp only [World.size_setCell]; omega))
  have NR4 := Lib.hid nr4
  have K4 := Lib.hid (NK1.out.trans k4 (fun x hx hfx => hfx.elim (fun h => h) (fun h => absurd h.1 (by omega))))
  have z4 := k4.size
  simp only [World.size_setCell] at z4
  clear own4 nr4 k4
  go_wp2_with fail
  go_ret2
  exact ⟨A', c', wq.heap.size, rfl, OW4.out, NR4.out, by omega, z4, K4.out⟩
end Go.Proofs.YtpomdnglknbanaaGreat
namespace Go.Proofs.YtpomdnglknbanaaGreat
open Go Go.RowKit
set_option maxRecDepth 100000 in
set_option maxHeartbeats 8000000 in
theorem njoin_arg (b : Nat) (id : ByteArray) (th : Int) (w : World) (ht : th < 1 ∨ 60 < th) :
    Calls Tryz.prog 37 #[.pointer (some ⟨b, 0, none⟩), .string id, .int .i64 th] w fun e w' => e = .returned (.tuple #[.slice none 0 0, .int .i64 1]) ∧ Below w.heap.size w w' := by
  have qa := alloc_cells
  have qf := alloc_frozens
  by_cases u1 : th < 1
  · have v1 : decide (th < 1) = true := by simp; omega
    clear ht
    go_enter Tryz.func37, Tryz.ntmps37
    go_wp2_with fail
    go_ret2
    exact ⟨rfl, (by repeat (first | (with_reducible exact Below.refl _ _) | ((with_reducible refine Below.alloc ?_ ?_ _); rotate_left; (next => ((try dsimp only); (try simp only [World.size_alloc, World.size_setCell, World.size_drew]); omega))) | ((with_reducible refine Below.setCell ?_ ?_ _); rotate_left; (next => ((try dsimp only); (try simp only [World.size_alloc, World.size_setCell, World.size_drew]); omega))) | (with_reducible refine Below.drew ?_) | (refine Below.trans ?_ (by assumption))))⟩
  · have u2 : 60 < th := by omega
    have v1 : decide (th < 1) = false := by simp; omega
    have v2 : decide (60 < th) = true := by simp; omega
    clear ht
    go_enter Tryz.func37, Tryz.ntmps37
    go_wp2_with fail
    go_ret2
    exact ⟨rfl, (by repeat (first | (with_reducible exact Below.refl _ _) | ((with_reducible refine Below.alloc ?_ ?_ _); rotate_left; (next => ((try dsimp only); (try simp only [World.size_alloc, World.size_setCell, World.size_drew]); omega))) | ((with_reducible refine Below.setCell ?_ ?_ _); rotate_left; (next => ((try dsimp only); (try simp only [World.size_alloc, World.size_setCell, World.size_drew]); omega))) | (with_reducible refine Below.drew ?_) | (refine Below.trans ?_ (by assumption))))⟩
set_option maxRecDepth 100000 in
set_option maxHeartbeats 8000000 in
theorem njoin_none (b : Nat) (s : NSt) (f : Nat → Prop) (id : ByteArray) (th : Int) (w : World) (h : NRep w b s f) (ok : NOK s) (ht : 1 ≤ th ∧ th ≤ 60) (hid : has s.peers id = false) :
    Calls Tryz.prog 37 #[.pointer (some ⟨b, 0, none⟩), .string id, .int .i64 th] w fun e w' => e = .returned (.tuple #[.slice none 0 0, .int .i64 4]) ∧ Below w.heap.size w w' := by
  have HRep := Lib.hid h
  have HLv := Lib.hid (fun w' (h : NRep w' b s f) => nlevel_ok b s f id w' h ok (levN s id) 4 rfl (by rw [hid]; rfl))
  obtain ⟨lvl, hlvl⟩ : ∃ x, levN s id = x := ⟨_, rfl⟩
  rw [hlvl] at HLv
  obtain ⟨t1, t2⟩ := ht
  have u1 : ¬ th < 1 := by omega
  have u2 : ¬ 60 < th := by omega
  have v1 : decide (th < 1) = false := by simp; omega
  have v2 : decide (60 < th) = false := by simp; omega
  clear h ok hid hlvl
  have qa := alloc_cells
  have qf := alloc_frozens
  go_enter Tryz.func37, Tryz.ntmps37
  go_wp2_with fail
  refine (HLv.out _ (HRep.out.below (by repeat (first | (with_reducible exact Below.refl _ _) | ((with_reducible refine Below.alloc ?_ ?_ _); rotate_left; (next => ((try dsimp only); (try simp only [World.size_alloc, World.size_setCell, World.size_drew]); omega))) | ((with_reducible refine Below.setCell ?_ ?_ _); rotate_left; (next => ((try dsimp only); (try simp only [World.size_alloc, World.size_setCell, World.size_drew]); omega))) | (with_reducible refine Below.drew ?_) | (refine Below.trans ?_ (by assumption)))))).mono ?_
  rintro e w1 ⟨rfl, hb1⟩
  have HB1 := Lib.hid (show Below w.heap.size w w1 from (by repeat (first | (with_reducible exact Below.refl _ _) | ((with_reducible refine Below.alloc ?_ ?_ _); rotate_left; (next => ((try dsimp only); (try simp only [World.size_alloc, World.size_setCell, World.size_drew]); omega))) | ((with_reducible refine Below.setCell ?_ ?_ _); rotate_left; (next => ((try dsimp only); (try simp only [World.size_alloc, World.size_setCell, World.size_drew]); omega))) | (with_reducible refine Below.drew ?_) | ((with_reducible refine Below.trans ?_ (Below.mono hb1 ?_)); rotate_left; (next => ((try dsimp only); (try simp only [World.size_alloc, World.size_setCell, World.size_drew]); omega))))))
  clear hb1
  go_wp2_with fail
  go_ret2
  exact ⟨rfl, HB1.out⟩
set_option maxRecDepth 100000 in
set_option maxHeartbeats 16000000 in
theorem njoin_not (b : Nat) (s : NSt) (f : Nat → Prop) (id : ByteArray) (th : Int) (i e0 : Int) (w : World) (h : NRep w b s f) (ok : NOK s) (ht : 1 ≤ th ∧ th ≤ 60) (hid : has s.peers id = true) (hx : idxS (hitS id th) s.subs = i) (hc : (0 ≤ i ∧ e0 = 5) ∨ (i < 0 ∧ s.subs.length = 8 ∧ e0 = 10)) :
    Calls Tryz.prog 37 #[.pointer (some ⟨b, 0, none⟩), .string id, .int .i64 th] w fun e w' => e = .returned (.tuple #[.slice none 0 0, .int .i64 e0]) ∧ Below w.heap.size w w' := by
  have HRep := Lib.hid h
  obtain ⟨A, c, k9, own, hbl, kf⟩ := h.subRow
  have h8 := ok.subs
  have SR := Lib.hid (srow_own own rfl)
  have HC := Lib.hid (fun w' b1 b2 (hr : SRow w' A s.subs.length s.subs) h1 h2 => contains_sub A s.subs.length c s.subs id th b1 b2 w' hr (by omega) h1 h2)
  rw [hx] at HC
  have HLv := Lib.hid (fun w' (h : NRep w' b s f) => nlevel_ok b s f id w' h ok (levN s id) 0 rfl (by rw [hid]; rfl))
  obtain ⟨lvl, hlvl⟩ : ∃ x, levN s id = x := ⟨_, rfl⟩
  rw [hlvl] at HLv
  obtain ⟨n, hn⟩ : ∃ n, s.subs.length = n := ⟨_, rfl⟩
  rw [hn] at k9 HC SR hc
  obtain ⟨t1, t2⟩ := ht
  have u1 : ¬ th < 1 := by omega
  have u2 : ¬ 60 < th := by omega
  have v1 : decide (th < 1) = false := by simp; omega
  have v2 : decide (60 < th) = false := by simp; omega
  clear h ok own hx hn hid hlvl h8
  have qa := alloc_cells
  have qf := alloc_frozens
  rcases hc with ⟨hc, rfl⟩ | ⟨hc, rfl, rfl⟩
  · have hd : decide (0 ≤ i) = true := by simp; omega
    go_enter Tryz.func37, Tryz.ntmps37
    go_wp2_with fail
    refine (HLv.out _ (HRep.out.below (by repeat (first | (with_reducible exact Below.refl _ _) | ((with_reducible refine Below.alloc ?_ ?_ _); rotate_left; (next => ((try dsimp only); (try simp only [World.size_alloc, World.size_setCell, World.size_drew]); omega))) | ((with_reducible refine Below.setCell ?_ ?_ _); rotate_left; (next => ((try dsimp only); (try simp only [World.size_alloc, World.size_setCell, World.size_drew]); omega))) | (with_reducible refine Below.drew ?_) | (refine Below.trans ?_ (by assumption)))))).mono ?_
    rintro e w1 ⟨rfl, hb1⟩
    have hbw1 : Below w.heap.size w w1 := (by repeat (first | (with_reducible exact Below.refl _ _) | ((with_reducible refine Below.alloc ?_ ?_ _); rotate_left; (next => ((try dsimp only); (try simp only [World.size_alloc, World.size_setCell, World.size_drew]); omega))) | ((with_reducible refine Below.setCell ?_ ?_ _); rotate_left; (next => ((try dsimp only); (try simp only [World.size_alloc, World.size_setCell, World.size_drew]); omega))) | (with_reducible refine Below.drew ?_) | ((with_reducible refine Below.trans ?_ (Below.mono hb1 ?_)); rotate_left; (next => ((try dsimp only); (try simp only [World.size_alloc, World.size_setCell, World.size_drew]); omega)))))
    have x1 : w1.cell? ⟨w.heap.size, 0, none⟩ = some (.string id) := (hb1.cell (p := ⟨w.heap.size, 0, none⟩) (by simp; try omega)).trans (by simp [go_sem, ↓IntWalk.iteOmega, *])
    have y1 : w1.cell? ⟨w.heap.size + 1, 0, none⟩ = some (.int .i64 th) := (hb1.cell (p := ⟨w.heap.size + 1, 0, none⟩) (by simp; try omega)).trans (by simp [go_sem, ↓IntWalk.iteOmega, *])
    have z1 : w.heap.size + 2 ≤ w1.heap.size := by have := hb1.size; simp at this; omega
    have SR1 := Lib.hid (SR.out.below hbw1)
    have c91 := (hbw1.cell (p := ⟨b, 9, none⟩) hbl).trans k9
    have HB1 := Lib.hid hbw1
    have XY1 := Lib.hid (And.intro x1 y1)
    clear hb1 hbw1 k9 kf
    go_wp2_with fail
    refine (HC.out w1 w.heap.size (w.heap.size + 1) SR1.out XY1.out.1 XY1.out.2).mono ?_
    rintro e w2 ⟨rfl, hb2⟩
    have HB2 := Lib.hid (HB1.out.trans (Below.mono hb2 (by omega)))
    clear hb2
    go_wp2_with fail
    go_ret2
    exact ⟨rfl, HB2.out⟩
  · have hd : decide (0 ≤ i) = false := by simp; omega
    have hd2 : ¬ 0 ≤ i := by omega
    go_enter Tryz.func37, Tryz.ntmps37
    go_wp2_with fail
    refine (HLv.out _ (HRep.out.below (by repeat (first | (with_reducible exact Below.refl _ _) | ((with_reducible refine Below.alloc ?_ ?_ _); rotate_left; (next => ((try dsimp only); (try simp only [World.size_alloc, World.size_setCell, World.size_drew]); omega))) | ((with_reducible refine Below.setCell ?_ ?_ _); rotate_left; (next => ((try dsimp only); (try simp only [World.size_alloc, World.size_setCell, World.size_drew]); omega))) | (with_reducible refine Below.drew ?_) | (refine Below.trans ?_ (by assumption)))))).mono ?_
    rintro e w1 ⟨rfl, hb1⟩
    have hbw1 : Below w.heap.size w w1 := (by repeat (first | (with_reducible exact Below.refl _ _) | ((with_reducible refine Below.alloc ?_ ?_ _); rotate_left; (next => ((try dsimp only); (try simp only [World.size_alloc, World.size_setCell, World.size_drew]); omega))) | ((with_reducible refine Below.setCell ?_ ?_ _); rotate_left; (next => ((try dsimp only); (try simp only [World.size_alloc, World.size_setCell, World.size_drew]); omega))) | (with_reducible refine Below.drew ?_) | ((with_reducible refine Below.trans ?_ (Below.mono hb1 ?_)); rotate_left; (next => ((try dsimp only); (try simp only [World.size_alloc, World.size_setCell, World.size_drew]); omega)))))
    have x1 : w1.cell? ⟨w.heap.size, 0, none⟩ = some (.string id) := (hb1.cell (p := ⟨w.heap.size, 0, none⟩) (by simp; try omega)).trans (by simp [go_sem, ↓IntWalk.iteOmega, *])
    have y1 : w1.cell? ⟨w.heap.size + 1, 0, none⟩ = some (.int .i64 th) := (hb1.cell (p := ⟨w.heap.size + 1, 0, none⟩) (by simp; try omega)).trans (by simp [go_sem, ↓IntWalk.iteOmega, *])
    have z1 : w.heap.size + 2 ≤ w1.heap.size := by have := hb1.size; simp at this; omega
    have SR1 := Lib.hid (SR.out.below hbw1)
    have c91 := (hbw1.cell (p := ⟨b, 9, none⟩) hbl).trans k9
    have fz1 : ∀ o, w1.frozen? ⟨b, o, none⟩ = false := fun o => (World.frozen?_of_block (hbw1.block b hbl)).trans (kf o)
    have HB1 := Lib.hid hbw1
    have XY1 := Lib.hid (And.intro x1 y1)
    clear hb1 hbw1 k9 kf
    go_wp2_with fail
    refine (HC.out w1 w.heap.size (w.heap.size + 1) SR1.out XY1.out.1 XY1.out.2).mono ?_
    rintro e w2 ⟨rfl, hb2⟩
    have hbl1 : b < w1.heap.size := by omega
    have c92 := (hb2.cell (p := ⟨b, 9, none⟩) hbl1).trans c91
    have HB2 := Lib.hid (HB1.out.trans (Below.mono hb2 (by omega)))
    clear hb2
    go_wp2_with fail
    go_ret2
    exact ⟨rfl, HB2.out⟩
end Go.Proofs.YtpomdnglknbanaaGreat
namespace Go.Proofs.YtpomdnglknbanaaGreat
open Go Go.RowKit
theorem own_base0 {w : World} {base e s n : Nat} {A : Option Addr} {c : Nat} {xs : List Value} (h : w.ownsRow base e s (.slice A n c) n xs) : A = none ∧ n = 0 ∨ ∃ g, A = some ⟨g, 0, none⟩ := by
  rcases h.2 with ⟨he, h0⟩ | ⟨g, c', cur, he, _⟩
  · cases he; exact .inl ⟨rfl, h0⟩
  · cases he; exact .inr ⟨g, rfl⟩
set_option maxHeartbeats 4000000 in
theorem cloneS_ok (A : Option Addr) (n c base : Nat) (L : List Sub) (w : World) (own : w.ownsRow base 53 3 (.slice A n c) n (subsC L)) (hn : n ≤ 1000) :
    Calls Tryz.prog 42 #[.slice A n c] w fun e w' => ∃ A' c', e = .returned (.slice A' n c') ∧ w'.ownsRow w.heap.size 53 3 (.slice A' n c') n (subsC L) ∧ Below w.heap.size w w' := by
  have hq := fun (w : World) => Lib.run_eql_slice_nil (P := Tryz.prog) w 54 53 A n c 0 0 info_subs
  have hxl := own.1
  rcases own_base0 own with ⟨rfl, rfl⟩ | ⟨g, rfl⟩
  · have h0 : subsC L = [] := List.eq_nil_of_length_eq_zero (by rw [hxl])
    rw [h0]
    clear own h0 hxl
    simp only [Option.isNone] at hq
    go_enter Tryz.func42, Tryz.ntmps42
    go_wp2_with fail
    go_ret
    exact ⟨_, _, rfl, World.ownsRow_nil _ _ _ _, Below.refl _ _⟩
  · simp only [Option.isNone] at hq
    obtain ⟨i0, hi, hz0, hz1, hz2⟩ := info_parts info_sub
    have hca : ∀ j u, (subsC L)[j]? = some u → w.cell? ((⟨g, 0, none⟩ : Addr).add j) = some u := fun j u hu => own.cells (g := g) rfl j u hu
    have hgl := (own.lt g rfl).2
    have HCa := Lib.hid (fun (o : Obj) j u (hu : (subsC L)[j]? = some u) => ((World.cell?_alloc_lt w o ((⟨g, 0, none⟩ : Addr).add j) (by rw [Go.WideShapes.add_plain]; exact hgl)).trans (hca j u hu)))
    have HLen := Lib.hid hxl
    clear own hca hxl
    go_enter Tryz.func42, Tryz.ntmps42
    go_wp2_with (at_builtin; refine wpList_append_own _ rfl _ _ 54 rfl w.heap.size 53 i0 _ 3 32 info_subs hi hz0 hz1 hz2 rfl (by decide) _ _ _ rfl (World.ownsRow_made w #[] 0 (Nat.le_refl _) (Nat.zero_le _) rfl) ⟨g, 0, none⟩ n c (subsC L) rfl HLen.out (HCa.out _) (subsC_one L) (by unfold maxLen; omega) (by omega) (by simp) ?_)
    intro v1 w1 own1 gr1 _
    obtain ⟨A1, c1, rfl, q1, q2, q3⟩ := own_form own1
    have bel := ((Below.refl w.heap.size w).alloc (Nat.le_refl _) (.cells #[] 53)).grown gr1 (by simp) (fun g hg => by simp [Value.ownBlock] at hg; omega)
    have own2 : w1.ownsRow w.heap.size 53 3 (.slice A1 n c1) n (subsC L) := by simpa using own1
    have HO := Lib.hid own2
    clear own1 gr1 own2
    go_wp2_with fail
    go_ret
    exact ⟨A1, c1, by simp, HO.out, bel⟩
set_option maxHeartbeats 4000000 in
theorem nsubs_ok (b : Nat) (s : NSt) (f : Nat → Prop) (w : World) (h : NRep w b s f) (ok : NOK s) :
    Calls Tryz.prog 19 #[.pointer (some ⟨b, 0, none⟩)] w fun e w' => ∃ A' c', e = .returned (.slice A' s.subs.length c') ∧ w'.ownsRow w.heap.size 53 3 (.slice A' s.subs.length c') s.subs.length (subsC s.subs) ∧ Below w.heap.size w w' := by
  obtain ⟨A, c, k9, own, hbl, kf⟩ := h.subRow
  have h8 := ok.subs
  have HC := Lib.hid (cloneS_ok A s.subs.length c 0 s.subs w own (by omega))
  clear h ok own kf
  go_enter Tryz.func19, Tryz.ntmps19
  go_wp2_with fail
  refine HC.out.mono ?_
  rintro e w1 ⟨A1, c1, rfl, own1, hb1⟩
  have O1 := Lib.hid own1
  clear own1
  go_wp2_with fail
  go_ret
  exact ⟨A1, c1, rfl, O1.out, hb1⟩
end Go.Proofs.YtpomdnglknbanaaGreat
