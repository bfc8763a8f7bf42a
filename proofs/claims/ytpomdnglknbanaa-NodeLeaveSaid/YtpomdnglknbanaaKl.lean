/-
  What NodeLeave asks: its closures, a node that someone left, (*Node).Watch of oneself.
-/
import Derived.Test.YtpomdnglknbanaaNy
import Derived.Test.YtpomdnglknbanaaKt
set_option linter.unusedSimpArgs false
set_option linter.unusedVariables false
namespace Go.Proofs.Ytpomdnglknbanaa
open Go Go.RowKit
set_option maxHeartbeats 2000000 in
theorem nl1_ok (s id : ByteArray) (x : Int) (on : Bool) (b1 : Nat) (r : Bool) (w : World) (hc1 : w.cell? ⟨b1, 0, none⟩ = some (.string id)) (hb1 : b1 < w.heap.size) (hr1 : (s.toList == id.toList) = r) :
    Calls Try.prog 72 #[.agg #[.string s, .int .i64 x, .bool on], .pointer (some ⟨b1, 0, none⟩)] w fun e w' => e = .returned (.bool r) ∧ Below w.heap.size w w' := by
  have HR := Lib.hid hr1
  have qa := alloc_cells
  have qf := alloc_frozens
  clear hr1
  go_enter Try.func72, Try.ntmps72
  go_wp2_with fail
  go_ret
  exact ⟨by rw [← HR.out]; rfl, (by repeat (first | (with_reducible exact Below.refl _ _) | ((with_reducible refine Below.alloc ?_ ?_ _); rotate_left; (next => ((try dsimp only); (try simp only [World.size_alloc, World.size_setCell, World.size_drew]); omega))) | ((with_reducible refine Below.setCell ?_ ?_ _); rotate_left; (next => ((try dsimp only); (try simp only [World.size_alloc, World.size_setCell, World.size_drew]); omega))) | (with_reducible refine Below.drew ?_) | (refine Below.trans ?_ (by assumption))))⟩
set_option maxRecDepth 100000 in
set_option maxHeartbeats 4000000 in
theorem index_nl1 (A : Option Addr) (n c : Nat) (L : List Sub) (id : ByteArray) (b1 : Nat) (w : World) (hr : SRow w A n L) (hn : n ≤ 1000) (hc1 : w.cell? ⟨b1, 0, none⟩ = some (.string id)) :
    Calls Try.prog 120 #[.slice A n c, .func (.func 72) #[] #[.pointer (some ⟨b1, 0, none⟩)]] w fun e w' => e = .returned (.int .i64 (idxS (hitI id) L)) ∧ Below w.heap.size w w' := by
  have hl := hr.1
  have HR := Lib.hid hr
  have lb1 := World.block_lt_of_cell? w _ hc1
  have HC1 := Lib.hid hc1
  have HF := Lib.hid nl1_ok
  clear hr hc1
  have qa := alloc_cells
  have qf := alloc_frozens
  go_enter Try.func120, Try.ntmps120
  go_wp2_with fail
  go_loopw [8] (fun v wr => ∃ k : Nat, k ≤ n ∧ v = .int .i64 k ∧ (∀ j, j < k → hitI id (L.getD j default) = false) ∧ Below w.heap.size w wr) (fun v _ => n - (intOf v).toNat)
  case atStart => exact ⟨0, Nat.zero_le _, rfl, fun j hj => absurd hj (by omega), (by repeat (first | (with_reducible exact Below.refl _ _) | ((with_reducible refine Below.alloc ?_ ?_ _); rotate_left; (next => ((try dsimp only); (try simp only [World.size_alloc, World.size_setCell, World.size_drew]); omega))) | ((with_reducible refine Below.setCell ?_ ?_ _); rotate_left; (next => ((try dsimp only); (try simp only [World.size_alloc, World.size_setCell, World.size_drew]); omega))) | (with_reducible refine Below.drew ?_) | (refine Below.trans ?_ (by assumption))))⟩
  case round =>
    obtain ⟨k, hk, rfl, hno, bel⟩ := hrel
    have sz0 := bel.size
    have cb1 : wr.cell? ⟨b1, 0, none⟩ = some (.string id) := (bel.cell (p := ⟨b1, 0, none⟩) lb1).trans HC1.out
    have bz1 : b1 < wr.heap.size := by omega
    by_cases hlt : k < n
    · obtain ⟨b, off, rfl, lb, hp⟩ := (HR.out.below bel).at hlt
      obtain ⟨u, huk⟩ : ∃ u, L.getD k default = u := ⟨_, rfl⟩
      rw [huk] at hp
      obtain ⟨k0, k1, k2⟩ := hp
      have B0 := Lib.hid bel
      obtain ⟨r1, hr1⟩ : ∃ r, (u.id.toList == id.toList) = r := ⟨_, rfl⟩
      have hh : hitI id u = r1 := hr1
      have HR1 := Lib.hid hr1
      cases r1 with
      | true =>
        have HKi := Lib.hid (idxS_some (p := hitI id) (L := L) (k := k) (by omega) (by rw [huk]; exact hh) hno)
        clear bel hno huk hh hr1
        go_wp2_with fail
        refine (HF.out _ id _ _ b1 true _ cb1 bz1 HR1.out).mono ?_
        rintro e w1 ⟨rfl, hb1⟩
        have z1 := hb1.size
        have c1 := Below.cells hb1
        have f1 := Below.frozens hb1
        try simp only [World.size_alloc, World.size_setCell, World.size_drew] at z1 c1 f1
        go_wp2_with fail
        go_ret
        exact ⟨by rw [HKi.out]; rfl, B0.out.trans (Below.mono hb1 sz0)⟩
      | false =>
        have HNo := Lib.hid (show ∀ j, j < k + 1 → hitI id (L.getD j default) = false from fun j hj => by
          rcases Nat.lt_or_ge j k with c | c
          · exact hno j c
          · obtain rfl : j = k := by omega
            rw [huk]; exact hh)
        clear bel hno huk hh hr1
        go_wp2_with fail
        refine (HF.out _ id _ _ b1 false _ cb1 bz1 HR1.out).mono ?_
        rintro e w1 ⟨rfl, hb1⟩
        have z1 := hb1.size
        have c1 := Below.cells hb1
        have f1 := Below.frozens hb1
        try simp only [World.size_alloc, World.size_setCell, World.size_drew] at z1 c1 f1
        go_wp2_with fail
        go_roundw
        case rel => exact ⟨k + 1, by omega, by go_num, HNo.out, B0.out.trans (Below.mono hb1 sz0)⟩
        case measure => simp [intOf]; omega
    · obtain rfl : n = k := by omega
      have HKi := Lib.hid (idxS_none (p := hitI id) (L := L) (fun j hj => hno j (by omega)))
      clear hno
      go_wp2_with fail
      go_ret
      exact ⟨by rw [HKi.out]; rfl, bel⟩
set_option maxHeartbeats 2000000 in
theorem idf2_ok (s id : ByteArray) (a b c d x : Int) (v : Value) (bx : Nat) (r : Bool) (w : World) (hc : w.cell? ⟨bx, 0, none⟩ = some (.string id)) (hbx : bx < w.heap.size) (hv : v.oneCell' = true) (hr : (s.toList == id.toList) = r) :
    Calls Try.prog 74 #[.agg #[.string s, .int .i64 a, .int .i64 b, .int .i64 c, .int .i64 d, v, .int .i64 x], .pointer (some ⟨bx, 0, none⟩)] w fun e w' => e = .returned (.bool r) ∧ Below w.heap.size w w' := by
  have HRr := Lib.hid hr
  have qa := alloc_cells
  have qf := alloc_frozens
  clear hr
  go_enter Try.func74, Try.ntmps74
  go_wp2_with fail
  go_ret
  exact ⟨by rw [← HRr.out]; rfl, (by repeat (first | (with_reducible exact Below.refl _ _) | ((with_reducible refine Below.alloc ?_ ?_ _); rotate_left; (next => ((try dsimp only); (try simp only [World.size_alloc, World.size_setCell, World.size_drew]); omega))) | ((with_reducible refine Below.setCell ?_ ?_ _); rotate_left; (next => ((try dsimp only); (try simp only [World.size_alloc, World.size_setCell, World.size_drew]); omega))) | (with_reducible refine Below.drew ?_) | (refine Below.trans ?_ (by assumption))))⟩
set_option maxRecDepth 100000 in
set_option maxHeartbeats 4000000 in
theorem index_id2 (A : Option Addr) (n c : Nat) (L : List Peer) (f : Nat → Prop) (id : ByteArray) (bx : Nat) (i : Int) (w : World) (hr : PRow w A n L f) (hn : n ≤ 1000) (hT : TabOK L) (hc : w.cell? ⟨bx, 0, none⟩ = some (.string id)) (hi : (if has L id then (pos L id : Int) else -1) = i) :
    Calls Try.prog 73 #[.slice A n c, .func (.func 74) #[] #[.pointer (some ⟨bx, 0, none⟩)]] w fun e w' => e = .returned (.int .i64 i) ∧ Below w.heap.size w w' := by
  have hl := hr.1
  have HR := Lib.hid hr
  have HT := Lib.hid hT
  have hbx := World.block_lt_of_cell? w _ hc
  have HC := Lib.hid hc
  have HI := Lib.hid hi
  have HF := Lib.hid idf2_ok
  clear hr hT hc hi
  have qa := alloc_cells
  have qf := alloc_frozens
  go_enter Try.func73, Try.ntmps73
  go_wp2_with fail
  go_loopw [8] (fun v wr => ∃ k : Nat, k ≤ n ∧ v = .int .i64 k ∧ (∀ j, j < k → (L.getD j default).id ≠ id) ∧ Below w.heap.size w wr) (fun v _ => n - (intOf v).toNat)
  case atStart => exact ⟨0, Nat.zero_le _, rfl, fun j hj => absurd hj (by omega), (by repeat (first | (with_reducible exact Below.refl _ _) | ((with_reducible refine Below.alloc ?_ ?_ _); rotate_left; (next => ((try dsimp only); (try simp only [World.size_alloc, World.size_setCell, World.size_drew]); omega))) | ((with_reducible refine Below.setCell ?_ ?_ _); rotate_left; (next => ((try dsimp only); (try simp only [World.size_alloc, World.size_setCell, World.size_drew]); omega))) | (with_reducible refine Below.drew ?_) | (refine Below.trans ?_ (by assumption))))⟩
  case round =>
    obtain ⟨k, hk, rfl, hno, bel⟩ := hrel
    have sz0 := bel.size
    have cb : wr.cell? ⟨bx, 0, none⟩ = some (.string id) := (bel.cell (p := ⟨bx, 0, none⟩) hbx).trans HC.out
    have bz : bx < wr.heap.size := by omega
    by_cases hlt : k < n
    · obtain ⟨b, off, rfl, lb, _, hp⟩ := (HR.out.below bel).at hlt
      obtain ⟨p, hpk⟩ : ∃ p, L.getD k default = p := ⟨_, rfl⟩
      rw [hpk] at hp
      obtain ⟨k0, k1, k2, k3, k4, k6, B, cc, k5, hin, _⟩ := hp
      have B0 := Lib.hid bel
      by_cases he : p.id = id
      · have hs : (p.id.toList == id.toList) = true := by rw [he]; simp
        have hh : has L id = true := (has_iff HT.out.order id).2 ⟨p, by rw [← hpk, List.getD_eq_getElem?_getD, List.getElem?_eq_getElem (show k < L.length by omega)]; exact List.getElem_mem _, he⟩
        have hki := pos_unique HT.out hh (show k < L.length by omega) (by rw [hpk]; exact he)
        have hii : (k : Int) = i := by rw [← HI.out, if_pos hh, hki]
        have HKi := Lib.hid hii
        clear bel hin hno hpk he hh hki hii
        go_wp2_with fail
        refine (HF.out _ id _ _ _ _ _ _ bx true _ cb bz rfl hs).mono ?_
        rintro e w1 ⟨rfl, hb1⟩
        have z1 := hb1.size
        have c1 := Below.cells hb1
        have f1 := Below.frozens hb1
        try simp only [World.size_alloc, World.size_setCell, World.size_drew] at z1 c1 f1
        go_wp2_with fail
        go_ret
        exact ⟨by rw [← HKi.out]; rfl, B0.out.trans (Below.mono hb1 sz0)⟩
      · have hs := str_ne he
        have HNo := Lib.hid (show ∀ j, j < k + 1 → (L.getD j default).id ≠ id from fun j hj => by
          rcases Nat.lt_or_ge j k with c | c
          · exact hno j c
          · obtain rfl : j = k := by omega
            rw [hpk]; exact he)
        clear bel hin hno hpk he
        go_wp2_with fail
        refine (HF.out _ id _ _ _ _ _ _ bx false _ cb bz rfl hs).mono ?_
        rintro e w1 ⟨rfl, hb1⟩
        have z1 := hb1.size
        have c1 := Below.cells hb1
        have f1 := Below.frozens hb1
        try simp only [World.size_alloc, World.size_setCell, World.size_drew] at z1 c1 f1
        go_wp2_with fail
        go_roundw
        case rel => exact ⟨k + 1, by omega, by go_num, HNo.out, B0.out.trans (Below.mono hb1 sz0)⟩
        case measure => simp [intOf]; omega
    · obtain rfl : n = k := by omega
      have hh : has L id = false := by
        cases hb : has L id with
        | false => rfl
        | true => exact absurd (has_id hb) (hno _ (by have := has_lt hb; omega))
      have hii : -1 = i := by rw [← HI.out, hh]; rfl
      have HKi := Lib.hid hii
      clear hno hh hii
      go_wp2_with fail
      go_ret
      exact ⟨by rw [← HKi.out]; rfl, bel⟩

theorem contains_nl1 (A : Option Addr) (n c : Nat) (L : List Sub) (id : ByteArray) (b1 : Nat) (w : World) (hr : SRow w A n L) (hn : n ≤ 1000) (hc1 : w.cell? ⟨b1, 0, none⟩ = some (.string id)) (hx : idxS (hitI id) L = -1) :
    Calls Try.prog 71 #[.slice A n c, .func (.func 72) #[] #[.pointer (some ⟨b1, 0, none⟩)]] w fun e w' => e = .returned (.bool false) ∧ Below w.heap.size w w' := by
  have HI := Lib.hid (index_nl1 A n c L id b1 w hr hn hc1)
  rw [hx] at HI
  clear hr hc1 hx
  go_enter Try.func71, Try.ntmps71
  go_wp2_with fail
  refine HI.out.mono ?_
  rintro e w1 ⟨rfl, hb1⟩
  go_wp2_with fail
  go_ret
  exact ⟨rfl, hb1⟩
theorem nwatch_self {b : Nat} {id : ByteArray} {inc every cap least now seq drops E : Int} {P S : Value} (w : World) (h : NodeAt w b id inc every cap least now seq drops P S) :
    Calls Try.prog 27 #[.pointer (some ⟨b, 0, none⟩), .string id, .int .i64 E] w fun e w' => e = .returned (.int .i64 5) ∧ w = w' := by
  obtain ⟨k0, _⟩ := h.cells
  have hs : (id.toList == id.toList) = true := by simp
  clear h
  go_enter Try.func27, Try.ntmps27
  go_wp2_with fail
  go_ret
  exact ⟨rfl, rfl⟩
/-! A node that someone left. -/
theorem drop_erase (L : List Peer) (id : ByteArray) : dropS L id = L.eraseIdx (pos L id) := by rw [List.eraseIdx_eq_take_drop_succ]; rfl
theorem drop_mem {L : List Peer} {id : ByteArray} {p : Peer} (h : p ∈ dropS L id) : p ∈ L := by rw [drop_erase] at h; exact (List.eraseIdx_sublist L _).mem h
theorem drop_tab {L : List Peer} (h : TabOK L) (id : ByteArray) : TabOK (dropS L id) := by
  have hs := List.eraseIdx_sublist L (pos L id)
  rw [← drop_erase] at hs
  exact ⟨Nat.le_trans hs.length_le h.len, fun p hp => h.each p (drop_mem hp), h.order.sublist hs⟩
theorem drop_has {L : List Peer} (h : TabOK L) {id : ByteArray} (hh : has L id = true) : has (dropS L id) id = false := by
  cases hc : has (dropS L id) id with
  | false => rfl
  | true =>
    obtain ⟨p, hp, e⟩ := (has_iff (drop_tab h id).order id).1 hc
    rw [drop_erase, List.mem_eraseIdx_iff_getElem] at hp
    obtain ⟨i, hi, hne, rfl⟩ := hp
    exact absurd (pos_unique h hh hi (by rw [List.getD_eq_getElem?_getD, List.getElem?_eq_getElem hi]; exact e)) hne
theorem NOK.left {s : NSt} (h : NOK s) (id : ByteArray) : NOK (leaveS s id) :=
  ⟨h.id, h.inc, h.every, h.cap, h.least, h.now, h.seq, h.drops, drop_tab h.tab id, fun p hp => h.wins p (drop_mem hp), by
    show (s.subs.filter _).length ≤ 8
    exact Nat.le_trans (List.length_filter_le _ _) h.subs⟩
theorem left_none (s : NSt) (id : ByteArray) : idxS (hitI id) (leaveS s id).subs = -1 := by
  refine idxS_none fun j hj => ?_
  have hm := getD_mem (d := default) hj
  have := (List.mem_filter.1 (show (leaveS s id).subs.getD j default ∈ s.subs.filter (fun u => !hitI id u) from hm)).2
  simpa using this
theorem drop_len {L : List Peer} {id : ByteArray} (hh : has L id = true) : (dropS L id).length = L.length - 1 := by
  rw [drop_erase, List.length_eraseIdx, if_pos (has_lt hh)]
end Go.Proofs.Ytpomdnglknbanaa
