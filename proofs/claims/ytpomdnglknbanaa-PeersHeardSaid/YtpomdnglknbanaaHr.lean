/-
  peers.Hear at a table that may be.
-/
import Derived.Test.YtpomdnglknbanaaHe
import Derived.Test.YtpomdnglknbanaaQV
set_option linter.unusedSimpArgs false
set_option linter.unusedVariables false
namespace Go.Proofs.Ytpomdnglknbanaa
open Go.RowKit
theorem newer_cases {p : Peer} {i s : Int} (h : newer p i s = true) : p.inc < i ∨ i = p.inc ∧ p.seq < s := by
  unfold newer at h
  simpa using h
theorem older_cases {p : Peer} {i s : Int} (h : newer p i s = false) : i < p.inc ∨ i = p.inc ∧ s ≤ p.seq := by
  unfold newer at h
  simp only [Bool.or_eq_false_iff, Bool.and_eq_false_iff, decide_eq_false_iff_not] at h
  omega
set_option maxRecDepth 100000 in
set_option maxHeartbeats 16000000 in
theorem hear_old (A : Option Addr) (n c : Nat) (L : List Peer) (f : Nat → Prop) (id : ByteArray) (i s now : Int) (p : Peer) (w : World) (hr : PRow w A n L f) (h : TabOK L) (hid : IdOK (byts id)) (hi : 0 ≤ i ∧ i < 2147483648) (hs : 1 ≤ s ∧ s < 2147483648) (hnow : 0 ≤ now ∧ now ≤ 1073741824)
    (hb : has L id = true) (hp : L.getD (pos L id) default = p) (hlast : p.last ≤ now) (hold : newer p i s = false) :
    Calls Try.prog 42 #[.slice A n c, .agg #[.string id, .int .i64 i, .int .i64 s], .int .i64 now] w fun e w' => ∃ A' c', e = .returned (.tuple #[.slice A' n c', .bool false, .int .i64 0]) ∧ Tab w' w.heap.size A' n c' (hearS L id i s now) ∧ Below w.heap.size w w' := by
  have hl := hr.1
  have h6 := h.len
  have hHS : hearS L id i s now = L.set (pos L id) { p with drops := if p.drops = 1073741824 then p.drops else p.drops + 1 } := by unfold hearS heardP; rw [hp, hold]; rfl
  have hPl : pos L id < L.length := by unfold has at hb; simp at hb; exact hb.1
  have hpm := (tab_good h _ hPl).1
  rw [hp] at hpm
  have HC := Lib.hid (fun w' (hr : PRow w' A n L f) => pcheck_ok A n c L f w' hr h)
  have HBc := Lib.hid (fun w' => bcheck_ok id i s w' hid hi hs)
  have HF := Lib.hid (fun w' (hr : PRow w' A n L f) => find_ok A n c L f id w' hr (by omega) h.order)
  have HCo := Lib.hid (fun w' (hr : PRow w' A n L f) => copied_ok A n c L f w' hr (by omega) (fun k hk => by have := h.vals k (by omega); omega))
  obtain ⟨i1, i2⟩ := hi
  obtain ⟨s1, s2⟩ := hs
  have HT := Lib.hid (fun w' => take_old p.inc p.seq p.drops i s _ hpm.gate i1 i2 s1 s2 (older_cases hold) rfl w')
  have HR := Lib.hid hr
  rw [hb] at HF
  obtain ⟨P, hP⟩ : ∃ P, pos L id = P := ⟨_, rfl⟩
  rw [hP] at HF hPl hHS hp
  obtain ⟨D, hD⟩ : ∃ D, (if p.drops = 1073741824 then p.drops else p.drops + 1) = D := ⟨_, rfl⟩
  rw [hD] at HT hHS
  have HHS := Lib.hid hHS
  have Hp := Lib.hid hp
  obtain ⟨n1, n2⟩ := hnow
  have d3 : decide (now < 0) = false := by simp; omega
  have d4 : decide (1073741824 < now) = false := by simp; omega
  have d5 : ¬ now < p.last := by omega
  have hPn : P < n := by omega
  clear hr h hid hb hP hpm hD hHS hp hold
  have qa := alloc_cells
  have qf := alloc_frozens
  go_enter Try.func42, Try.ntmps42
  go_wp2_with fail
  refine (HC.out _ (HR.out.below (by repeat (first | (with_reducible exact Below.refl _ _) | ((with_reducible refine Below.alloc ?_ ?_ _); rotate_left; (next => ((try dsimp only); (try simp only [World.size_alloc, World.size_setCell, World.size_drew]); omega))) | ((with_reducible refine Below.setCell ?_ ?_ _); rotate_left; (next => ((try dsimp only); (try simp only [World.size_alloc, World.size_setCell, World.size_drew]); omega))) | (with_reducible refine Below.drew ?_) | (refine Below.trans ?_ (by assumption)))))).mono ?_
  rintro e w1 ⟨rfl, hb1⟩
  have z1 := hb1.size
  have c1 := Below.cells hb1
  have f1 := Below.frozens hb1
  try simp only [World.size_alloc, World.size_setCell, World.size_drew] at z1 c1 f1
  go_wp2_with fail
  refine (HBc.out _).mono ?_
  rintro e w2 ⟨rfl, hb2⟩
  have z2 := hb2.size
  have c2 := Below.cells hb2
  have f2 := Below.frozens hb2
  try simp only [World.size_alloc, World.size_setCell, World.size_drew] at z2 c2 f2
  go_wp2_with fail
  refine (HF.out _ (HR.out.below (by repeat (first | (with_reducible exact Below.refl _ _) | ((with_reducible refine Below.alloc ?_ ?_ _); rotate_left; (next => ((try dsimp only); (try simp only [World.size_alloc, World.size_setCell, World.size_drew]); omega))) | ((with_reducible refine Below.setCell ?_ ?_ _); rotate_left; (next => ((try dsimp only); (try simp only [World.size_alloc, World.size_setCell, World.size_drew]); omega))) | (with_reducible refine Below.drew ?_) | ((with_reducible refine Below.trans ?_ (Below.mono hb2 ?_)); rotate_left; (next => ((try dsimp only); (try simp only [World.size_alloc, World.size_setCell, World.size_drew]); omega))) | ((with_reducible refine Below.trans ?_ (Below.mono hb1 ?_)); rotate_left; (next => ((try dsimp only); (try simp only [World.size_alloc, World.size_setCell, World.size_drew]); omega))))))).mono ?_
  rintro e w3 ⟨rfl, hb3⟩
  have z3 := hb3.size
  have c3 := Below.cells hb3
  have f3 := Below.frozens hb3
  try simp only [World.size_alloc, World.size_setCell, World.size_drew] at z3 c3 f3
  go_wp2_with fail
  refine (HCo.out _ (HR.out.below (by repeat (first | (with_reducible exact Below.refl _ _) | ((with_reducible refine Below.alloc ?_ ?_ _); rotate_left; (next => ((try dsimp only); (try simp only [World.size_alloc, World.size_setCell, World.size_drew]); omega))) | ((with_reducible refine Below.setCell ?_ ?_ _); rotate_left; (next => ((try dsimp only); (try simp only [World.size_alloc, World.size_setCell, World.size_drew]); omega))) | (with_reducible refine Below.drew ?_) | ((with_reducible refine Below.trans ?_ (Below.mono hb3 ?_)); rotate_left; (next => ((try dsimp only); (try simp only [World.size_alloc, World.size_setCell, World.size_drew]); omega))) | ((with_reducible refine Below.trans ?_ (Below.mono hb2 ?_)); rotate_left; (next => ((try dsimp only); (try simp only [World.size_alloc, World.size_setCell, World.size_drew]); omega))) | ((with_reducible refine Below.trans ?_ (Below.mono hb1 ?_)); rotate_left; (next => ((try dsimp only); (try simp only [World.size_alloc, World.size_setCell, World.size_drew]); omega))))))).mono ?_
  rintro e w4 ⟨A4, cc4, xs, rfl, own4, pv4, hb4⟩
  obtain ⟨g, X1, u, X2, rfl, TF, P1, PU, P2⟩ := Tab.focus (P := P) (show Tab w4 w3.heap.size A4 n cc4 L from ⟨xs, own4, pv4⟩) hPl
  rw [Hp.out] at PU
  obtain ⟨v, rfl, ov⟩ := PU
  obtain ⟨B, bc, rfl, _, _, _⟩ := own_form ov
  have z4 := hb4.size
  have c4 := Below.cells hb4
  have f4 := Below.frozens hb4
  try simp only [World.size_alloc, World.size_setCell, World.size_drew] at z4 c4 f4
  have m0 : w4.cell? ⟨w.heap.size, 0, none⟩ = some (.string id) := by simp [go_sem, ↓IntWalk.iteOmega, *]
  have m1 : w4.cell? ⟨w.heap.size, 1, none⟩ = some (.int .i64 i) := by simp [go_sem, ↓IntWalk.iteOmega, *]
  have m2 : w4.cell? ⟨w.heap.size, 2, none⟩ = some (.int .i64 s) := by simp [go_sem, ↓IntWalk.iteOmega, *]
  have BL := Lib.hid (show Below w.heap.size w w4 from (by repeat (first | (with_reducible exact Below.refl _ _) | ((with_reducible refine Below.alloc ?_ ?_ _); rotate_left; (next => ((try dsimp only); (try simp only [World.size_alloc, World.size_setCell, World.size_drew]); omega))) | ((with_reducible refine Below.setCell ?_ ?_ _); rotate_left; (next => ((try dsimp only); (try simp only [World.size_alloc, World.size_setCell, World.size_drew]); omega))) | (with_reducible refine Below.drew ?_) | ((with_reducible refine Below.trans ?_ (Below.mono hb4 ?_)); rotate_left; (next => ((try dsimp only); (try simp only [World.size_alloc, World.size_setCell, World.size_drew]); omega))) | ((with_reducible refine Below.trans ?_ (Below.mono hb3 ?_)); rotate_left; (next => ((try dsimp only); (try simp only [World.size_alloc, World.size_setCell, World.size_drew]); omega))) | ((with_reducible refine Below.trans ?_ (Below.mono hb2 ?_)); rotate_left; (next => ((try dsimp only); (try simp only [World.size_alloc, World.size_setCell, World.size_drew]); omega))) | ((with_reducible refine Below.trans ?_ (Below.mono hb1 ?_)); rotate_left; (next => ((try dsimp only); (try simp only [World.size_alloc, World.size_setCell, World.size_drew]); omega))))))
  have sz4 : w.heap.size + 1 ≤ w3.heap.size := by omega
  clear c1 c2 c3 c4 f1 f2 f3 f4 qa qf hb1 hb2 hb3 hb4 z1 z2 z3
  have k1 := TF.cell (i := 1) rfl
  have k2 := TF.cell (i := 2) rfl
  have k3 := TF.cell (i := 3) rfl
  have k6 := TF.cell (i := 6) rfl
  have kf := TF.frozen
  have gl := TF.lt
  have HTF := Lib.hid TF
  have HP1 := Lib.hid P1
  have HP2 := Lib.hid P2
  have HOv := Lib.hid ov
  clear TF P1 P2 ov own4 pv4
  obtain ⟨gl1, gl2⟩ := gl
  go_wp2_with fail
  have k0 : w4.drew.cell? ⟨g, P * 7 + 1, none⟩ = some (.int .i64 p.inc) ∧ w4.drew.cell? ⟨g, P * 7 + 1 + 1, none⟩ = some (.int .i64 p.seq) ∧ w4.drew.cell? ⟨g, P * 7 + 1 + 2, none⟩ = some (.int .i64 p.drops) ∧ w4.drew.cell? ⟨w.heap.size, 1, none⟩ = some (.int .i64 i) ∧ w4.drew.cell? ⟨w.heap.size, 2, none⟩ = some (.int .i64 s) := ⟨k1, k2, k3, m1, m2⟩
  refine wp_region_A 18 rfl (by kernel_rfl) ?_
  (refine wpAny_take (i := 0) (v := ?_) rfl (by kernel_rfl) (by kernel_rfl) (by kernel_rfl) (fun _ _ _ h => h) (Or.inl ⟨by rfl, ?_⟩) ?_; (rotate_left; (intro w; go_simp; try with_reducible rfl)))
  refine wpAny_of_M (S := fun w' => w'.cell? ⟨g, P * 7 + 1, none⟩ = some (.int .i64 p.inc) ∧ w'.cell? ⟨g, P * 7 + 1 + 1, none⟩ = some (.int .i64 p.seq) ∧ w'.cell? ⟨g, P * 7 + 1 + 2, none⟩ = some (.int .i64 p.drops) ∧ w'.cell? ⟨w.heap.size, 1, none⟩ = some (.int .i64 i) ∧ w'.cell? ⟨w.heap.size, 2, none⟩ = some (.int .i64 s)) (D := fun j => decide (11 ≤ j)) _ _ _ _ ?_
  (refine wpAnyM_take (i := 1) (v := ?_) rfl (by kernel_rfl) (by kernel_rfl) (by kernel_rfl) (by kernel_rfl) (fun _ _ _ h => h) (Or.inl ⟨by rfl, ?_⟩) k0 ?_; (rotate_left; (intro w hSw; (try dsimp only at hSw); go_simp; try with_reducible rfl)); (try simp only [Act.put, List.setIfInBounds_toArray, List.set_cons_zero, List.set_cons_succ]))
  (refine wpAnyM_take (i := 2) (v := ?_) rfl (by kernel_rfl) (by kernel_rfl) (by kernel_rfl) (by kernel_rfl) (fun _ _ _ h => h) (Or.inl ⟨by rfl, ?_⟩) k0 ?_; (rotate_left; (intro w hSw; (try dsimp only at hSw); go_simp; try with_reducible rfl)); (try simp only [Act.put, List.setIfInBounds_toArray, List.set_cons_zero, List.set_cons_succ]))
  (refine wpAnyM_take (i := 3) (v := ?_) rfl (by kernel_rfl) (by kernel_rfl) (by kernel_rfl) (by kernel_rfl) (fun _ _ _ h => h) (Or.inl ⟨by rfl, ?_⟩) k0 ?_; (rotate_left; (intro w hSw; (try dsimp only at hSw); go_simp; try with_reducible rfl)); (try simp only [Act.put, List.setIfInBounds_toArray, List.set_cons_zero, List.set_cons_succ]))
  (refine wpAnyM_take (i := 4) (v := ?_) rfl (by kernel_rfl) (by kernel_rfl) (by kernel_rfl) (by kernel_rfl) (fun _ _ _ h => h) (Or.inl ⟨by rfl, ?_⟩) k0 ?_; (rotate_left; (intro w hSw; (try dsimp only at hSw); go_simp; try with_reducible rfl)); (try simp only [Act.put, List.setIfInBounds_toArray, List.set_cons_zero, List.set_cons_succ]))
  (refine wpAnyM_take (i := 5) (v := ?_) rfl (by kernel_rfl) (by kernel_rfl) (by kernel_rfl) (by kernel_rfl) (fun _ _ _ h => h) (Or.inl ⟨by rfl, ?_⟩) k0 ?_; (rotate_left; (intro w hSw; (try dsimp only at hSw); go_simp; try with_reducible rfl)); (try simp only [Act.put, List.setIfInBounds_toArray, List.set_cons_zero, List.set_cons_succ]))
  (refine wpAnyM_take (i := 6) (v := ?_) rfl (by kernel_rfl) (by kernel_rfl) (by kernel_rfl) (by kernel_rfl) (fun _ _ _ h => h) (Or.inl ⟨by rfl, ?_⟩) k0 ?_; (rotate_left; (intro w hSw; (try dsimp only at hSw); go_simp; try with_reducible rfl)); (try simp only [Act.put, List.setIfInBounds_toArray, List.set_cons_zero, List.set_cons_succ]))
  (refine wpAnyM_take (i := 7) (v := ?_) rfl (by kernel_rfl) (by kernel_rfl) (by kernel_rfl) (by kernel_rfl) (fun _ _ _ h => h) (Or.inl ⟨by rfl, ?_⟩) k0 ?_; (rotate_left; (intro w hSw; (try dsimp only at hSw); go_simp; try with_reducible rfl)); (try simp only [Act.put, List.setIfInBounds_toArray, List.set_cons_zero, List.set_cons_succ]))
  (refine wpAnyM_take (i := 8) (v := ?_) rfl (by kernel_rfl) (by kernel_rfl) (by kernel_rfl) (by kernel_rfl) (fun _ _ _ h => h) (Or.inl ⟨by rfl, ?_⟩) k0 ?_; (rotate_left; (intro w hSw; (try dsimp only at hSw); go_simp; try with_reducible rfl)); (try simp only [Act.put, List.setIfInBounds_toArray, List.set_cons_zero, List.set_cons_succ]))
  refine wpAnyM_one (i := 9) (by kernel_rfl) rfl (fun K hK => ?_)
  go_simp
  refine (HT.out _).mono ?_
  rintro e w5 ⟨rfl, hb5⟩
  have z5 := hb5.size
  have hb5' : Below w4.heap.size w4 w5 := (Below.drew (Below.refl _ w4)).trans hb5
  have TF5 := HTF.out.below hb5'
  have P15 := Lib.hid (HP1.out.below hb5')
  have P25 := Lib.hid (HP2.out.below hb5')
  have Ov5 := Lib.hid (own_below HOv.out hb5')
  have B5 := Lib.hid (BL.out.trans (hb5'.mono (by omega)))
  have zz5 := hb5'.size
  have m15 : w5.cell? ⟨w.heap.size, 1, none⟩ = some (.int .i64 i) := (hb5'.cell (p := ⟨w.heap.size, 1, none⟩) (by show w.heap.size < _; omega)).trans m1
  have m25 : w5.cell? ⟨w.heap.size, 2, none⟩ = some (.int .i64 s) := (hb5'.cell (p := ⟨w.heap.size, 2, none⟩) (by show w.heap.size < _; omega)).trans m2
  clear hb5 hb5' k0 k1 k2 k3 k6 kf m0 m1 m2
  have k1 := TF5.cell (i := 1) rfl
  have k2 := TF5.cell (i := 2) rfl
  have k3 := TF5.cell (i := 3) rfl
  have k6 := TF5.cell (i := 6) rfl
  have kf := TF5.frozen
  have HTF5 := Lib.hid TF5
  clear TF5
  go_simp
  refine hK _ _ (fun _ => ⟨k1, k2, k3, m15, m25⟩) ?_
  clear hK K
  have k0 : w5.cell? ⟨g, P * 7 + 1, none⟩ = some (.int .i64 p.inc) ∧ w5.cell? ⟨g, P * 7 + 1 + 1, none⟩ = some (.int .i64 p.seq) ∧ w5.cell? ⟨g, P * 7 + 1 + 2, none⟩ = some (.int .i64 p.drops) ∧ w5.cell? ⟨w.heap.size, 1, none⟩ = some (.int .i64 i) ∧ w5.cell? ⟨w.heap.size, 2, none⟩ = some (.int .i64 s) := ⟨k1, k2, k3, m15, m25⟩
  (refine wpAnyM_take (i := 10) (v := ?_) rfl (by kernel_rfl) (by kernel_rfl) (by kernel_rfl) (by kernel_rfl) (fun _ _ _ h => h) (Or.inl ⟨by rfl, ?_⟩) k0 ?_; (rotate_left; (intro w hSw; (try dsimp only at hSw); go_simp; try with_reducible rfl)); (try simp only [Act.put, List.setIfInBounds_toArray, List.set_cons_zero, List.set_cons_succ]))
  refine wpAnyM_rest (by kernel_rfl) ?_
  clear k0
  (refine wpAny_take (i := 11) (v := ?_) rfl (by kernel_rfl) (by kernel_rfl) (by kernel_rfl) (fun _ _ _ h => h) (Or.inl ⟨by rfl, ?_⟩) ?_; (rotate_left; (intro w; go_simp; try with_reducible rfl)))
  (refine wpAny_take (i := 12) (v := ?_) rfl (by kernel_rfl) (by kernel_rfl) (by kernel_rfl) (fun _ _ _ h => h) (Or.inl ⟨by rfl, ?_⟩) ?_; (rotate_left; (intro w; go_simp; try with_reducible rfl)))
  (refine wpAny_take (i := 13) (v := ?_) rfl (by kernel_rfl) (by kernel_rfl) (by kernel_rfl) (fun _ _ _ h => h) (Or.inl ⟨by rfl, ?_⟩) ?_; (rotate_left; (intro w; go_simp; try with_reducible rfl)))
  (refine wpAny_take (i := 14) (v := ?_) rfl (by kernel_rfl) (by kernel_rfl) (by kernel_rfl) (fun _ _ _ h => h) (Or.inl ⟨by rfl, ?_⟩) ?_; (rotate_left; (intro w; go_simp; try with_reducible rfl)))
  (refine wpAny_take (i := 15) (v := ?_) rfl (by kernel_rfl) (by kernel_rfl) (by kernel_rfl) (fun _ _ _ h => h) (Or.inl ⟨by rfl, ?_⟩) ?_; (rotate_left; (intro w; go_simp; try with_reducible rfl)))
  refine wpAny_ready (rs := [16]) (by kernel_rfl) (by simp) ?_
  refine AllReady.cons rfl (fun K hK => ?_) AllReady.nil
  rw [if_pos (by rfl)]
  go_simp
  refine hK _ _ ?_
  clear hK K
  (refine wpAny_take (i := 17) (v := ?_) rfl (by kernel_rfl) (by kernel_rfl) (by kernel_rfl) (fun _ _ _ h => h) (Or.inl ⟨by rfl, ?_⟩) ?_; (rotate_left; (intro w; go_simp; try with_reducible rfl)))
  refine wpAny_done (by kernel_rfl) ?_ _
  have TF6 : TabF (((w5.setCell ⟨g, P * 7 + 1, none⟩ (.int .i64 p.inc)).setCell ⟨g, P * 7 + 1 + 1, none⟩ (.int .i64 p.seq)).setCell ⟨g, P * 7 + 1 + 2, none⟩ (.int .i64 D)) w3.heap.size g n cc4 P X1 [.string p.id, .int .i64 p.inc, .int .i64 p.seq, .int .i64 D, .int .i64 p.cap, .slice B p.vals.length bc, .int .i64 p.last] X2 := ((HTF5.out.set 1 (by omega) (.int .i64 p.inc)).set 2 (by omega) (.int .i64 p.seq)).set 3 (by omega) (.int .i64 D)
  have keep : ∀ v n xs, w5.ownsRow w3.heap.size 3 1 v n xs → (((w5.setCell ⟨g, P * 7 + 1, none⟩ (.int .i64 p.inc)).setCell ⟨g, P * 7 + 1 + 1, none⟩ (.int .i64 p.seq)).setCell ⟨g, P * 7 + 1 + 2, none⟩ (.int .i64 D)).ownsRow w3.heap.size 3 1 v n xs := fun v n xs ho =>
    own_tset ((HTF5.out.set 1 (by omega) (.int .i64 p.inc)).set 2 (by omega) (.int .i64 p.seq)) (own_tset (HTF5.out.set 1 (by omega) (.int .i64 p.inc)) (own_tset HTF5.out ho _ _) _ _) _ _
  have HT6 := Lib.hid ((Tab.unfocus (p := { p with drops := D }) TF6 (P15.out.kept keep) ⟨_, rfl, keep _ _ _ Ov5.out⟩ (P25.out.kept keep) hPl).mono (show w.heap.size ≤ w3.heap.size by omega))
  have HB6 := Lib.hid (((B5.out.setCell (p := ⟨g, P * 7 + 1, none⟩) (by show w.heap.size ≤ g; omega) (.int .i64 p.inc)).setCell (p := ⟨g, P * 7 + 1 + 1, none⟩) (by show w.heap.size ≤ g; omega) (.int .i64 p.seq)).setCell (p := ⟨g, P * 7 + 1 + 2, none⟩) (by show w.heap.size ≤ g; omega) (.int .i64 D))
  clear keep TF6 k1 k2 k3 k6 kf m15 m25
  go_simp
  go_wp2_with fail
  go_ret3
  exact ⟨_, cc4, rfl, by rw [HHS.out]; exact HT6.out, HB6.out⟩
set_option maxRecDepth 100000 in
set_option maxHeartbeats 16000000 in
theorem hear_new (A : Option Addr) (n c : Nat) (L : List Peer) (f : Nat → Prop) (id : ByteArray) (i s now : Int) (p : Peer) (w : World) (hr : PRow w A n L f) (h : TabOK L) (hid : IdOK (byts id)) (hi : 0 ≤ i ∧ i < 2147483648) (hs : 1 ≤ s ∧ s < 2147483648) (hnow : 0 ≤ now ∧ now ≤ 1073741824)
    (hb : has L id = true) (hp : L.getD (pos L id) default = p) (hlast : p.last ≤ now) (hold : newer p i s = true) :
    Calls Try.prog 42 #[.slice A n c, .agg #[.string id, .int .i64 i, .int .i64 s], .int .i64 now] w fun e w' => ∃ A' c', e = .returned (.tuple #[.slice A' n c', .bool true, .int .i64 0]) ∧ Tab w' w.heap.size A' n c' (hearS L id i s now) ∧ Below w.heap.size w w' := by
  have hl := hr.1
  have h6 := h.len
  have hHS : hearS L id i s now = L.set (pos L id) { p with inc := i, seq := s, vals := pushd p.cap p.vals (min (now - p.last) 16777216), last := now } := by unfold hearS heardP pushd; rw [hp, hold]; rfl
  have hPl : pos L id < L.length := by unfold has at hb; simp at hb; exact hb.1
  have hpm := (tab_good h _ hPl).1
  rw [hp] at hpm
  have HC := Lib.hid (fun w' (hr : PRow w' A n L f) => pcheck_ok A n c L f w' hr h)
  have HBc := Lib.hid (fun w' => bcheck_ok id i s w' hid hi hs)
  have HF := Lib.hid (fun w' (hr : PRow w' A n L f) => find_ok A n c L f id w' hr (by omega) h.order)
  have HCo := Lib.hid (fun w' (hr : PRow w' A n L f) => copied_ok A n c L f w' hr (by omega) (fun k hk => by have := h.vals k (by omega); omega))
  obtain ⟨i1, i2⟩ := hi
  obtain ⟨s1, s2⟩ := hs
  have HT := Lib.hid (fun w' => take_new p.inc p.seq p.drops i s hpm.gate i1 i2 s1 s2 (newer_cases hold) w')
  have HR := Lib.hid hr
  rw [hb] at HF
  obtain ⟨P, hP⟩ : ∃ P, pos L id = P := ⟨_, rfl⟩
  rw [hP] at HF hPl hHS hp
  obtain ⟨D, hD⟩ : ∃ D, min (now - p.last) 16777216 = D := ⟨_, rfl⟩
  rw [hD] at hHS
  have hDb : 0 ≤ D ∧ D ≤ 16777216 := by have := hpm.last; omega
  have HPs := Lib.hid (fun A c w' hr => push_ok p.cap D A p.vals.length c p.vals w' hr ⟨hpm.win.1, hpm.win.2.1⟩ hpm.win.2.2.1 hpm.win.2.2.2 hDb)
  have HD := Lib.hid hD
  have l0 := hpm.last.1
  have HHS := Lib.hid hHS
  have Hp := Lib.hid hp
  obtain ⟨n1, n2⟩ := hnow
  have d3 : decide (now < 0) = false := by simp; omega
  have d4 : decide (1073741824 < now) = false := by simp; omega
  have d5 : ¬ now < p.last := by omega
  have hPn : P < n := by omega
  clear hr h hid hb hP hpm hD hHS hp hold
  have qa := alloc_cells
  have qf := alloc_frozens
  go_enter Try.func42, Try.ntmps42
  go_wp2_with fail
  refine (HC.out _ (HR.out.below (by repeat (first | (with_reducible exact Below.refl _ _) | ((with_reducible refine Below.alloc ?_ ?_ _); rotate_left; (next => ((try dsimp only); (try simp only [World.size_alloc, World.size_setCell, World.size_drew]); omega))) | ((with_reducible refine Below.setCell ?_ ?_ _); rotate_left; (next => ((try dsimp only); (try simp only [World.size_alloc, World.size_setCell, World.size_drew]); omega))) | (with_reducible refine Below.drew ?_) | (refine Below.trans ?_ (by assumption)))))).mono ?_
  rintro e w1 ⟨rfl, hb1⟩
  have z1 := hb1.size
  have c1 := Below.cells hb1
  have f1 := Below.frozens hb1
  try simp only [World.size_alloc, World.size_setCell, World.size_drew] at z1 c1 f1
  go_wp2_with fail
  refine (HBc.out _).mono ?_
  rintro e w2 ⟨rfl, hb2⟩
  have z2 := hb2.size
  have c2 := Below.cells hb2
  have f2 := Below.frozens hb2
  try simp only [World.size_alloc, World.size_setCell, World.size_drew] at z2 c2 f2
  go_wp2_with fail
  refine (HF.out _ (HR.out.below (by repeat (first | (with_reducible exact Below.refl _ _) | ((with_reducible refine Below.alloc ?_ ?_ _); rotate_left; (next => ((try dsimp only); (try simp only [World.size_alloc, World.size_setCell, World.size_drew]); omega))) | ((with_reducible refine Below.setCell ?_ ?_ _); rotate_left; (next => ((try dsimp only); (try simp only [World.size_alloc, World.size_setCell, World.size_drew]); omega))) | (with_reducible refine Below.drew ?_) | ((with_reducible refine Below.trans ?_ (Below.mono hb2 ?_)); rotate_left; (next => ((try dsimp only); (try simp only [World.size_alloc, World.size_setCell, World.size_drew]); omega))) | ((with_reducible refine Below.trans ?_ (Below.mono hb1 ?_)); rotate_left; (next => ((try dsimp only); (try simp only [World.size_alloc, World.size_setCell, World.size_drew]); omega))))))).mono ?_
  rintro e w3 ⟨rfl, hb3⟩
  have z3 := hb3.size
  have c3 := Below.cells hb3
  have f3 := Below.frozens hb3
  try simp only [World.size_alloc, World.size_setCell, World.size_drew] at z3 c3 f3
  go_wp2_with fail
  refine (HCo.out _ (HR.out.below (by repeat (first | (with_reducible exact Below.refl _ _) | ((with_reducible refine Below.alloc ?_ ?_ _); rotate_left; (next => ((try dsimp only); (try simp only [World.size_alloc, World.size_setCell, World.size_drew]); omega))) | ((with_reducible refine Below.setCell ?_ ?_ _); rotate_left; (next => ((try dsimp only); (try simp only [World.size_alloc, World.size_setCell, World.size_drew]); omega))) | (with_reducible refine Below.drew ?_) | ((with_reducible refine Below.trans ?_ (Below.mono hb3 ?_)); rotate_left; (next => ((try dsimp only); (try simp only [World.size_alloc, World.size_setCell, World.size_drew]); omega))) | ((with_reducible refine Below.trans ?_ (Below.mono hb2 ?_)); rotate_left; (next => ((try dsimp only); (try simp only [World.size_alloc, World.size_setCell, World.size_drew]); omega))) | ((with_reducible refine Below.trans ?_ (Below.mono hb1 ?_)); rotate_left; (next => ((try dsimp only); (try simp only [World.size_alloc, World.size_setCell, World.size_drew]); omega))))))).mono ?_
  rintro e w4 ⟨A4, cc4, xs, rfl, own4, pv4, hb4⟩
  obtain ⟨g, X1, u, X2, rfl, TF, P1, PU, P2⟩ := Tab.focus (P := P) (show Tab w4 w3.heap.size A4 n cc4 L from ⟨xs, own4, pv4⟩) hPl
  rw [Hp.out] at PU
  obtain ⟨v, rfl, ov⟩ := PU
  obtain ⟨B, bc, rfl, _, _, _⟩ := own_form ov
  have z4 := hb4.size
  have c4 := Below.cells hb4
  have f4 := Below.frozens hb4
  try simp only [World.size_alloc, World.size_setCell, World.size_drew] at z4 c4 f4
  have m0 : w4.cell? ⟨w.heap.size, 0, none⟩ = some (.string id) := by simp [go_sem, ↓IntWalk.iteOmega, *]
  have m1 : w4.cell? ⟨w.heap.size, 1, none⟩ = some (.int .i64 i) := by simp [go_sem, ↓IntWalk.iteOmega, *]
  have m2 : w4.cell? ⟨w.heap.size, 2, none⟩ = some (.int .i64 s) := by simp [go_sem, ↓IntWalk.iteOmega, *]
  have BL := Lib.hid (show Below w.heap.size w w4 from (by repeat (first | (with_reducible exact Below.refl _ _) | ((with_reducible refine Below.alloc ?_ ?_ _); rotate_left; (next => ((try dsimp only); (try simp only [World.size_alloc, World.size_setCell, World.size_drew]); omega))) | ((with_reducible refine Below.setCell ?_ ?_ _); rotate_left; (next => ((try dsimp only); (try simp only [World.size_alloc, World.size_setCell, World.size_drew]); omega))) | (with_reducible refine Below.drew ?_) | ((with_reducible refine Below.trans ?_ (Below.mono hb4 ?_)); rotate_left; (next => ((try dsimp only); (try simp only [World.size_alloc, World.size_setCell, World.size_drew]); omega))) | ((with_reducible refine Below.trans ?_ (Below.mono hb3 ?_)); rotate_left; (next => ((try dsimp only); (try simp only [World.size_alloc, World.size_setCell, World.size_drew]); omega))) | ((with_reducible refine Below.trans ?_ (Below.mono hb2 ?_)); rotate_left; (next => ((try dsimp only); (try simp only [World.size_alloc, World.size_setCell, World.size_drew]); omega))) | ((with_reducible refine Below.trans ?_ (Below.mono hb1 ?_)); rotate_left; (next => ((try dsimp only); (try simp only [World.size_alloc, World.size_setCell, World.size_drew]); omega))))))
  have sz4 : w.heap.size + 1 ≤ w3.heap.size := by omega
  clear c1 c2 c3 c4 f1 f2 f3 f4 qa qf hb1 hb2 hb3 hb4 z1 z2 z3
  have k1 := TF.cell (i := 1) rfl
  have k2 := TF.cell (i := 2) rfl
  have k3 := TF.cell (i := 3) rfl
  have k6 := TF.cell (i := 6) rfl
  have kf := TF.frozen
  have gl := TF.lt
  have HTF := Lib.hid TF
  have HP1 := Lib.hid P1
  have HP2 := Lib.hid P2
  have HOv := Lib.hid ov
  clear TF P1 P2 ov own4 pv4
  obtain ⟨gl1, gl2⟩ := gl
  go_wp2_with fail
  have k0 : w4.drew.cell? ⟨g, P * 7 + 1, none⟩ = some (.int .i64 p.inc) ∧ w4.drew.cell? ⟨g, P * 7 + 1 + 1, none⟩ = some (.int .i64 p.seq) ∧ w4.drew.cell? ⟨g, P * 7 + 1 + 2, none⟩ = some (.int .i64 p.drops) ∧ w4.drew.cell? ⟨w.heap.size, 1, none⟩ = some (.int .i64 i) ∧ w4.drew.cell? ⟨w.heap.size, 2, none⟩ = some (.int .i64 s) := ⟨k1, k2, k3, m1, m2⟩
  refine wp_region_A 18 rfl (by kernel_rfl) ?_
  (refine wpAny_take (i := 0) (v := ?_) rfl (by kernel_rfl) (by kernel_rfl) (by kernel_rfl) (fun _ _ _ h => h) (Or.inl ⟨by rfl, ?_⟩) ?_; (rotate_left; (intro w; go_simp; try with_reducible rfl)))
  refine wpAny_of_M (S := fun w' => w'.cell? ⟨g, P * 7 + 1, none⟩ = some (.int .i64 p.inc) ∧ w'.cell? ⟨g, P * 7 + 1 + 1, none⟩ = some (.int .i64 p.seq) ∧ w'.cell? ⟨g, P * 7 + 1 + 2, none⟩ = some (.int .i64 p.drops) ∧ w'.cell? ⟨w.heap.size, 1, none⟩ = some (.int .i64 i) ∧ w'.cell? ⟨w.heap.size, 2, none⟩ = some (.int .i64 s)) (D := fun j => decide (11 ≤ j)) _ _ _ _ ?_
  (refine wpAnyM_take (i := 1) (v := ?_) rfl (by kernel_rfl) (by kernel_rfl) (by kernel_rfl) (by kernel_rfl) (fun _ _ _ h => h) (Or.inl ⟨by rfl, ?_⟩) k0 ?_; (rotate_left; (intro w hSw; (try dsimp only at hSw); go_simp; try with_reducible rfl)); (try simp only [Act.put, List.setIfInBounds_toArray, List.set_cons_zero, List.set_cons_succ]))
  (refine wpAnyM_take (i := 2) (v := ?_) rfl (by kernel_rfl) (by kernel_rfl) (by kernel_rfl) (by kernel_rfl) (fun _ _ _ h => h) (Or.inl ⟨by rfl, ?_⟩) k0 ?_; (rotate_left; (intro w hSw; (try dsimp only at hSw); go_simp; try with_reducible rfl)); (try simp only [Act.put, List.setIfInBounds_toArray, List.set_cons_zero, List.set_cons_succ]))
  (refine wpAnyM_take (i := 3) (v := ?_) rfl (by kernel_rfl) (by kernel_rfl) (by kernel_rfl) (by kernel_rfl) (fun _ _ _ h => h) (Or.inl ⟨by rfl, ?_⟩) k0 ?_; (rotate_left; (intro w hSw; (try dsimp only at hSw); go_simp; try with_reducible rfl)); (try simp only [Act.put, List.setIfInBounds_toArray, List.set_cons_zero, List.set_cons_succ]))
  (refine wpAnyM_take (i := 4) (v := ?_) rfl (by kernel_rfl) (by kernel_rfl) (by kernel_rfl) (by kernel_rfl) (fun _ _ _ h => h) (Or.inl ⟨by rfl, ?_⟩) k0 ?_; (rotate_left; (intro w hSw; (try dsimp only at hSw); go_simp; try with_reducible rfl)); (try simp only [Act.put, List.setIfInBounds_toArray, List.set_cons_zero, List.set_cons_succ]))
  (refine wpAnyM_take (i := 5) (v := ?_) rfl (by kernel_rfl) (by kernel_rfl) (by kernel_rfl) (by kernel_rfl) (fun _ _ _ h => h) (Or.inl ⟨by rfl, ?_⟩) k0 ?_; (rotate_left; (intro w hSw; (try dsimp only at hSw); go_simp; try with_reducible rfl)); (try simp only [Act.put, List.setIfInBounds_toArray, List.set_cons_zero, List.set_cons_succ]))
  (refine wpAnyM_take (i := 6) (v := ?_) rfl (by kernel_rfl) (by kernel_rfl) (by kernel_rfl) (by kernel_rfl) (fun _ _ _ h => h) (Or.inl ⟨by rfl, ?_⟩) k0 ?_; (rotate_left; (intro w hSw; (try dsimp only at hSw); go_simp; try with_reducible rfl)); (try simp only [Act.put, List.setIfInBounds_toArray, List.set_cons_zero, List.set_cons_succ]))
  (refine wpAnyM_take (i := 7) (v := ?_) rfl (by kernel_rfl) (by kernel_rfl) (by kernel_rfl) (by kernel_rfl) (fun _ _ _ h => h) (Or.inl ⟨by rfl, ?_⟩) k0 ?_; (rotate_left; (intro w hSw; (try dsimp only at hSw); go_simp; try with_reducible rfl)); (try simp only [Act.put, List.setIfInBounds_toArray, List.set_cons_zero, List.set_cons_succ]))
  (refine wpAnyM_take (i := 8) (v := ?_) rfl (by kernel_rfl) (by kernel_rfl) (by kernel_rfl) (by kernel_rfl) (fun _ _ _ h => h) (Or.inl ⟨by rfl, ?_⟩) k0 ?_; (rotate_left; (intro w hSw; (try dsimp only at hSw); go_simp; try with_reducible rfl)); (try simp only [Act.put, List.setIfInBounds_toArray, List.set_cons_zero, List.set_cons_succ]))
  refine wpAnyM_one (i := 9) (by kernel_rfl) rfl (fun K hK => ?_)
  go_simp
  refine (HT.out _).mono ?_
  rintro e w5 ⟨rfl, hb5⟩
  have z5 := hb5.size
  have hb5' : Below w4.heap.size w4 w5 := (Below.drew (Below.refl _ w4)).trans hb5
  have TF5 := HTF.out.below hb5'
  have P15 := Lib.hid (HP1.out.below hb5')
  have P25 := Lib.hid (HP2.out.below hb5')
  have Ov5 := Lib.hid (own_below HOv.out hb5')
  have B5 := Lib.hid (BL.out.trans (hb5'.mono (by omega)))
  have zz5 := hb5'.size
  have m15 : w5.cell? ⟨w.heap.size, 1, none⟩ = some (.int .i64 i) := (hb5'.cell (p := ⟨w.heap.size, 1, none⟩) (by show w.heap.size < _; omega)).trans m1
  have m25 : w5.cell? ⟨w.heap.size, 2, none⟩ = some (.int .i64 s) := (hb5'.cell (p := ⟨w.heap.size, 2, none⟩) (by show w.heap.size < _; omega)).trans m2
  clear hb5 hb5' k0 k1 k2 k3 k6 kf m0 m1 m2
  have k1 := TF5.cell (i := 1) rfl
  have k2 := TF5.cell (i := 2) rfl
  have k3 := TF5.cell (i := 3) rfl
  have k6 := TF5.cell (i := 6) rfl
  have kf := TF5.frozen
  have HTF5 := Lib.hid TF5
  clear TF5
  go_simp
  refine hK _ _ (fun _ => ⟨k1, k2, k3, m15, m25⟩) ?_
  clear hK K
  have k0 : w5.cell? ⟨g, P * 7 + 1, none⟩ = some (.int .i64 p.inc) ∧ w5.cell? ⟨g, P * 7 + 1 + 1, none⟩ = some (.int .i64 p.seq) ∧ w5.cell? ⟨g, P * 7 + 1 + 2, none⟩ = some (.int .i64 p.drops) ∧ w5.cell? ⟨w.heap.size, 1, none⟩ = some (.int .i64 i) ∧ w5.cell? ⟨w.heap.size, 2, none⟩ = some (.int .i64 s) := ⟨k1, k2, k3, m15, m25⟩
  (refine wpAnyM_take (i := 10) (v := ?_) rfl (by kernel_rfl) (by kernel_rfl) (by kernel_rfl) (by kernel_rfl) (fun _ _ _ h => h) (Or.inl ⟨by rfl, ?_⟩) k0 ?_; (rotate_left; (intro w hSw; (try dsimp only at hSw); go_simp; try with_reducible rfl)); (try simp only [Act.put, List.setIfInBounds_toArray, List.set_cons_zero, List.set_cons_succ]))
  refine wpAnyM_rest (by kernel_rfl) ?_
  clear k0
  (refine wpAny_take (i := 11) (v := ?_) rfl (by kernel_rfl) (by kernel_rfl) (by kernel_rfl) (fun _ _ _ h => h) (Or.inl ⟨by rfl, ?_⟩) ?_; (rotate_left; (intro w; go_simp; try with_reducible rfl)))
  (refine wpAny_take (i := 12) (v := ?_) rfl (by kernel_rfl) (by kernel_rfl) (by kernel_rfl) (fun _ _ _ h => h) (Or.inl ⟨by rfl, ?_⟩) ?_; (rotate_left; (intro w; go_simp; try with_reducible rfl)))
  (refine wpAny_take (i := 13) (v := ?_) rfl (by kernel_rfl) (by kernel_rfl) (by kernel_rfl) (fun _ _ _ h => h) (Or.inl ⟨by rfl, ?_⟩) ?_; (rotate_left; (intro w; go_simp; try with_reducible rfl)))
  (refine wpAny_take (i := 14) (v := ?_) rfl (by kernel_rfl) (by kernel_rfl) (by kernel_rfl) (fun _ _ _ h => h) (Or.inl ⟨by rfl, ?_⟩) ?_; (rotate_left; (intro w; go_simp; try with_reducible rfl)))
  (refine wpAny_take (i := 15) (v := ?_) rfl (by kernel_rfl) (by kernel_rfl) (by kernel_rfl) (fun _ _ _ h => h) (Or.inl ⟨by rfl, ?_⟩) ?_; (rotate_left; (intro w; go_simp; try with_reducible rfl)))
  refine wpAny_ready (rs := [16]) (by kernel_rfl) (by simp) ?_
  refine AllReady.cons rfl (fun K hK => ?_) AllReady.nil
  rw [if_pos (by rfl)]
  go_simp
  refine hK _ _ ?_
  clear hK K
  (refine wpAny_take (i := 17) (v := ?_) rfl (by kernel_rfl) (by kernel_rfl) (by kernel_rfl) (fun _ _ _ h => h) (Or.inl ⟨by rfl, ?_⟩) ?_; (rotate_left; (intro w; go_simp; try with_reducible rfl)))
  refine wpAny_done (by kernel_rfl) ?_ _
  have TF6 : TabF (((w5.setCell ⟨g, P * 7 + 1, none⟩ (.int .i64 i)).setCell ⟨g, P * 7 + 1 + 1, none⟩ (.int .i64 s)).setCell ⟨g, P * 7 + 1 + 2, none⟩ (.int .i64 p.drops)) w3.heap.size g n cc4 P X1 [.string p.id, .int .i64 i, .int .i64 s, .int .i64 p.drops, .int .i64 p.cap, .slice B p.vals.length bc, .int .i64 p.last] X2 := ((HTF5.out.set 1 (by omega) (.int .i64 i)).set 2 (by omega) (.int .i64 s)).set 3 (by omega) (.int .i64 p.drops)
  have keep : ∀ v n xs, w5.ownsRow w3.heap.size 3 1 v n xs → (((w5.setCell ⟨g, P * 7 + 1, none⟩ (.int .i64 i)).setCell ⟨g, P * 7 + 1 + 1, none⟩ (.int .i64 s)).setCell ⟨g, P * 7 + 1 + 2, none⟩ (.int .i64 p.drops)).ownsRow w3.heap.size 3 1 v n xs := fun v n xs ho =>
    own_tset ((HTF5.out.set 1 (by omega) (.int .i64 i)).set 2 (by omega) (.int .i64 s)) (own_tset (HTF5.out.set 1 (by omega) (.int .i64 i)) (own_tset HTF5.out ho _ _) _ _) _ _
  have P16 := Lib.hid (P15.out.kept keep)
  have P26 := Lib.hid (P25.out.kept keep)
  have Ov6 := Lib.hid (keep _ _ _ Ov5.out)
  have HB6 := Lib.hid (((B5.out.setCell (p := ⟨g, P * 7 + 1, none⟩) (by show w.heap.size ≤ g; omega) (.int .i64 i)).setCell (p := ⟨g, P * 7 + 1 + 1, none⟩) (by show w.heap.size ≤ g; omega) (.int .i64 s)).setCell (p := ⟨g, P * 7 + 1 + 2, none⟩) (by show w.heap.size ≤ g; omega) (.int .i64 p.drops))
  have zz6 : (((w5.setCell ⟨g, P * 7 + 1, none⟩ (.int .i64 i)).setCell ⟨g, P * 7 + 1 + 1, none⟩ (.int .i64 s)).setCell ⟨g, P * 7 + 1 + 2, none⟩ (.int .i64 p.drops)).heap.size = w5.heap.size := by simp
  go_simp
  generalize (((w5.setCell ⟨g, P * 7 + 1, none⟩ (.int .i64 i)).setCell ⟨g, P * 7 + 1 + 1, none⟩ (.int .i64 s)).setCell ⟨g, P * 7 + 1 + 2, none⟩ (.int .i64 p.drops)) = w6 at TF6 P16 P26 Ov6 HB6 zz6 ⊢
  have gz6 : g < w6.heap.size := by omega
  clear keep k1 k2 k3 k6 kf m15 m25 zz6
  have k4 := TF6.cell (i := 4) rfl
  have k5 := TF6.cell (i := 5) rfl
  have k6 := TF6.cell (i := 6) rfl
  have kf := TF6.frozen
  have HTF6 := Lib.hid TF6
  clear TF6
  have sub1 : IntKind.i64.wrap (now - p.last) = now - p.last := IntWalk.i64_in _ (by omega)
  have hmin : min (now - p.last) 16777216 = D := HD.out
  have HIn := Lib.hid (own_inRow Ov6.out)
  go_wp2_with fail
  have k0 : w6.drew.cell? ⟨g, P * 7 + 4, none⟩ = some (.int .i64 p.cap) ∧ w6.drew.cell? ⟨g, P * 7 + 4 + 1, none⟩ = some (.slice B p.vals.length bc) ∧ w6.drew.cell? ⟨g, P * 7 + 6, none⟩ = some (.int .i64 p.last) := ⟨k4, k5, k6⟩
  refine wp_region_A 19 rfl (by kernel_rfl) ?_
  (refine wpAny_take (i := 0) (v := ?_) rfl (by kernel_rfl) (by kernel_rfl) (by kernel_rfl) (fun _ _ _ h => h) (Or.inl ⟨by rfl, ?_⟩) ?_; (rotate_left; (intro w; go_simp; try with_reducible rfl)))
  refine wpAny_of_M (S := fun w' => w'.cell? ⟨g, P * 7 + 4, none⟩ = some (.int .i64 p.cap) ∧ w'.cell? ⟨g, P * 7 + 4 + 1, none⟩ = some (.slice B p.vals.length bc) ∧ w'.cell? ⟨g, P * 7 + 6, none⟩ = some (.int .i64 p.last)) (D := fun j => decide (13 ≤ j)) _ _ _ _ ?_
  (refine wpAnyM_take (i := 1) (v := ?_) rfl (by kernel_rfl) (by kernel_rfl) (by kernel_rfl) (by kernel_rfl) (fun _ _ _ h => h) (Or.inl ⟨by rfl, ?_⟩) k0 ?_; (rotate_left; (intro w hSw; (try dsimp only at hSw); go_simp; try with_reducible rfl)); (try simp only [Act.put, List.setIfInBounds_toArray, List.set_cons_zero, List.set_cons_succ]))
  (refine wpAnyM_take (i := 2) (v := ?_) rfl (by kernel_rfl) (by kernel_rfl) (by kernel_rfl) (by kernel_rfl) (fun _ _ _ h => h) (Or.inl ⟨by rfl, ?_⟩) k0 ?_; (rotate_left; (intro w hSw; (try dsimp only at hSw); go_simp; try with_reducible rfl)); (try simp only [Act.put, List.setIfInBounds_toArray, List.set_cons_zero, List.set_cons_succ]))
  (refine wpAnyM_take (i := 3) (v := ?_) rfl (by kernel_rfl) (by kernel_rfl) (by kernel_rfl) (by kernel_rfl) (fun _ _ _ h => h) (Or.inl ⟨by rfl, ?_⟩) k0 ?_; (rotate_left; (intro w hSw; (try dsimp only at hSw); go_simp; try with_reducible rfl)); (try simp only [Act.put, List.setIfInBounds_toArray, List.set_cons_zero, List.set_cons_succ]))
  (refine wpAnyM_take (i := 4) (v := ?_) rfl (by kernel_rfl) (by kernel_rfl) (by kernel_rfl) (by kernel_rfl) (fun _ _ _ h => h) (Or.inl ⟨by rfl, ?_⟩) k0 ?_; (rotate_left; (intro w hSw; (try dsimp only at hSw); go_simp; try with_reducible rfl)); (try simp only [Act.put, List.setIfInBounds_toArray, List.set_cons_zero, List.set_cons_succ]))
  (refine wpAnyM_take (i := 5) (v := ?_) rfl (by kernel_rfl) (by kernel_rfl) (by kernel_rfl) (by kernel_rfl) (fun _ _ _ h => h) (Or.inl ⟨by rfl, ?_⟩) k0 ?_; (rotate_left; (intro w hSw; (try dsimp only at hSw); go_simp; try with_reducible rfl)); (try simp only [Act.put, List.setIfInBounds_toArray, List.set_cons_zero, List.set_cons_succ]))
  (refine wpAnyM_take (i := 6) (v := ?_) rfl (by kernel_rfl) (by kernel_rfl) (by kernel_rfl) (by kernel_rfl) (fun _ _ _ h => h) (Or.inl ⟨by rfl, ?_⟩) k0 ?_; (rotate_left; (intro w hSw; (try dsimp only at hSw); go_simp; try with_reducible rfl)); (try simp only [Act.put, List.setIfInBounds_toArray, List.set_cons_zero, List.set_cons_succ]))
  (refine wpAnyM_take (i := 7) (v := ?_) rfl (by kernel_rfl) (by kernel_rfl) (by kernel_rfl) (by kernel_rfl) (fun _ _ _ h => h) (Or.inl ⟨by rfl, ?_⟩) k0 ?_; (rotate_left; (intro w hSw; (try dsimp only at hSw); go_simp; try with_reducible rfl)); (try simp only [Act.put, List.setIfInBounds_toArray, List.set_cons_zero, List.set_cons_succ]))
  (refine wpAnyM_take (i := 8) (v := ?_) rfl (by kernel_rfl) (by kernel_rfl) (by kernel_rfl) (by kernel_rfl) (fun _ _ _ h => h) (Or.inl ⟨by rfl, ?_⟩) k0 ?_; (rotate_left; (intro w hSw; (try dsimp only at hSw); go_simp; try with_reducible rfl)); (try simp only [Act.put, List.setIfInBounds_toArray, List.set_cons_zero, List.set_cons_succ]))
  (refine wpAnyM_take (i := 9) (v := ?_) rfl (by kernel_rfl) (by kernel_rfl) (by kernel_rfl) (by kernel_rfl) (fun _ _ _ h => h) (Or.inl ⟨by rfl, ?_⟩) k0 ?_; (rotate_left; (intro w hSw; (try dsimp only at hSw); go_simp; try with_reducible rfl)); (try simp only [Act.put, List.setIfInBounds_toArray, List.set_cons_zero, List.set_cons_succ]))
  (refine wpAnyM_take (i := 10) (v := ?_) rfl (by kernel_rfl) (by kernel_rfl) (by kernel_rfl) (by kernel_rfl) (fun _ _ _ h => h) (Or.inl ⟨by rfl, ?_⟩) k0 ?_; (rotate_left; (intro w hSw; (try dsimp only at hSw); go_simp; try with_reducible rfl)); (try simp only [Act.put, List.setIfInBounds_toArray, List.set_cons_zero, List.set_cons_succ]))
  (refine wpAnyM_take (i := 11) (v := ?_) rfl (by kernel_rfl) (by kernel_rfl) (by kernel_rfl) (by kernel_rfl) (fun _ _ _ h => h) (Or.inl ⟨by rfl, ?_⟩) k0 ?_; (rotate_left; (intro w hSw; (try dsimp only at hSw); go_simp; try with_reducible rfl)); (try simp only [Act.put, List.setIfInBounds_toArray, List.set_cons_zero, List.set_cons_succ]))
  refine wpAnyM_one (i := 12) (by kernel_rfl) rfl (fun K hK => ?_)
  go_simp
  obtain ⟨B', bc', eB, hin6, _⟩ := HIn.out
  obtain ⟨rfl, rfl⟩ : B = B' ∧ bc = bc' := by simp at eB; exact eB
  have hin7 : InRow w6.drew B p.vals.length bc p.vals := hin6.below (Below.drew (Below.refl _ w6))
  refine (HPs.out B bc w6.drew hin7).mono ?_
  rintro e w7 ⟨A7, n7, c7, rfl, own7, hb7⟩
  have hb7' : Below w6.heap.size w6 w7 := (Below.drew (Below.refl _ w6)).trans hb7
  have hn7 : (pushd p.cap p.vals D).length = n7 := by have := own7.1; simpa using this
  have zz7 := hb7'.size
  have TF7 := HTF6.out.below hb7'
  have P17 := Lib.hid (P16.out.below hb7')
  have P27 := Lib.hid (P26.out.below hb7')
  have B7 := Lib.hid (HB6.out.trans (hb7'.mono (by omega)))
  have O7 := Lib.hid (own_mono (B' := w3.heap.size) own7 (by show w3.heap.size ≤ w6.heap.size; omega))
  clear own7 hb7 hb7' k0 k4 k5 k6 kf hin6 hin7 eB
  have k4 := TF7.cell (i := 4) rfl
  have k5 := TF7.cell (i := 5) rfl
  have k6 := TF7.cell (i := 6) rfl
  have kf := TF7.frozen
  have HTF7 := Lib.hid TF7
  have gz7 : g < w7.heap.size := by omega
  clear TF7
  go_simp
  refine hK _ _ (fun _ => ⟨k4, k5, k6⟩) ?_
  clear hK K
  refine wpAnyM_rest (by kernel_rfl) ?_
  (refine wpAny_take (i := 13) (v := ?_) rfl (by kernel_rfl) (by kernel_rfl) (by kernel_rfl) (fun _ _ _ h => h) (Or.inl ⟨by rfl, ?_⟩) ?_; (rotate_left; (intro w; go_simp; try with_reducible rfl)))
  (refine wpAny_take (i := 14) (v := ?_) rfl (by kernel_rfl) (by kernel_rfl) (by kernel_rfl) (fun _ _ _ h => h) (Or.inl ⟨by rfl, ?_⟩) ?_; (rotate_left; (intro w; go_simp; try with_reducible rfl)))
  (refine wpAny_take (i := 15) (v := ?_) rfl (by kernel_rfl) (by kernel_rfl) (by kernel_rfl) (fun _ _ _ h => h) (Or.inl ⟨by rfl, ?_⟩) ?_; (rotate_left; (intro w; go_simp; try with_reducible rfl)))
  (refine wpAny_take (i := 16) (v := ?_) rfl (by kernel_rfl) (by kernel_rfl) (by kernel_rfl) (fun _ _ _ h => h) (Or.inl ⟨by rfl, ?_⟩) ?_; (rotate_left; (intro w; go_simp; try with_reducible rfl)))
  (refine wpAny_take (i := 17) (v := ?_) rfl (by kernel_rfl) (by kernel_rfl) (by kernel_rfl) (fun _ _ _ h => h) (Or.inl ⟨by rfl, ?_⟩) ?_; (rotate_left; (intro w; go_simp; try with_reducible rfl)))
  refine wpAny_ready (rs := [18]) (by kernel_rfl) (by simp) ?_
  refine AllReady.cons rfl (fun K hK => ?_) AllReady.nil
  rw [if_pos (by rfl)]
  go_simp
  have TF8 : TabF ((w7.setCell ⟨g, P * 7 + 4, none⟩ (.int .i64 p.cap)).setCell ⟨g, P * 7 + 4 + 1, none⟩ (.slice A7 n7 c7)) w3.heap.size g n cc4 P X1 [.string p.id, .int .i64 i, .int .i64 s, .int .i64 p.drops, .int .i64 p.cap, .slice A7 n7 c7, .int .i64 p.last] X2 := (HTF7.out.set 4 (by omega) (.int .i64 p.cap)).set 5 (by omega) (.slice A7 n7 c7)
  have keep : ∀ v n xs, w7.ownsRow w3.heap.size 3 1 v n xs → ((w7.setCell ⟨g, P * 7 + 4, none⟩ (.int .i64 p.cap)).setCell ⟨g, P * 7 + 4 + 1, none⟩ (.slice A7 n7 c7)).ownsRow w3.heap.size 3 1 v n xs := fun v n xs ho =>
    own_tset (HTF7.out.set 4 (by omega) (.int .i64 p.cap)) (own_tset HTF7.out ho _ _) _ _
  have P18 := Lib.hid (P17.out.kept keep)
  have P28 := Lib.hid (P27.out.kept keep)
  have O8 := Lib.hid (keep _ _ _ O7.out)
  have B8 := Lib.hid ((B7.out.setCell (p := ⟨g, P * 7 + 4, none⟩) (by show w.heap.size ≤ g; omega) (.int .i64 p.cap)).setCell (p := ⟨g, P * 7 + 4 + 1, none⟩) (by show w.heap.size ≤ g; omega) (.slice A7 n7 c7))
  refine hK _ _ ?_
  clear hK K
  refine wpAny_done (by kernel_rfl) ?_ _
  go_simp
  generalize ((w7.setCell ⟨g, P * 7 + 4, none⟩ (.int .i64 p.cap)).setCell ⟨g, P * 7 + 4 + 1, none⟩ (.slice A7 n7 c7)) = w8 at TF8 P18 P28 O8 B8 ⊢
  clear keep k4 k5 k6 kf
  have k6 := TF8.cell (i := 6) rfl
  have kf := TF8.frozen
  have HTF8 := Lib.hid TF8
  have TF9 : TabF (w8.setCell ⟨g, P * 7 + 6, none⟩ (.int .i64 now)) w3.heap.size g n cc4 P X1 [.string p.id, .int .i64 i, .int .i64 s, .int .i64 p.drops, .int .i64 p.cap, .slice A7 n7 c7, .int .i64 now] X2 := TF8.set 6 (by omega) (.int .i64 now)
  have keep : ∀ v n xs, w8.ownsRow w3.heap.size 3 1 v n xs → (w8.setCell ⟨g, P * 7 + 6, none⟩ (.int .i64 now)).ownsRow w3.heap.size 3 1 v n xs := fun v n xs ho => own_tset TF8 ho _ _
  have HT9 := Lib.hid ((Tab.unfocus (p := { p with inc := i, seq := s, vals := pushd p.cap p.vals D, last := now }) TF9 (P18.out.kept keep) ⟨_, rfl, by show World.ownsRow _ _ _ _ _ (pushd p.cap p.vals D).length _; rw [hn7]; exact keep _ _ _ O8.out⟩ (P28.out.kept keep) hPl).mono (show w.heap.size ≤ w3.heap.size by omega))
  have HB9 := Lib.hid (B8.out.setCell (p := ⟨g, P * 7 + 6, none⟩) (by show w.heap.size ≤ g; omega) (.int .i64 now))
  clear keep TF8 TF9 hn7
  go_wp2_with fail
  go_ret3
  exact ⟨_, cc4, rfl, by rw [HHS.out]; exact HT9.out, HB9.out⟩
end Go.Proofs.Ytpomdnglknbanaa
