/-
  rank.Put, rank.Cut.
-/
import Derived.Test.YtpomdnglknbanaaIn
import Derived.Test.YtpomdnglknbanaaRk
set_option linter.unusedSimpArgs false
set_option linter.unusedVariables false
namespace Go.Proofs.Ytpomdnglknbanaa
open Go.RowKit
theorem below_drewN {B : Nat} (w : World) (q : Nat) : Below B w (w.drewN q) := ⟨rfl, rfl, rfl, Nat.le_refl _, fun _ _ => rfl⟩
theorem bs_ok (A : Option Addr) (n c : Nat) (l : List Int) (x : Int) (w : World) (hr : Row w A n l) (hm : n ≤ 64) (hs : l.Pairwise (· ≤ ·)) :
    Calls Try.prog 130 #[.slice A n c, .int .i64 x] w fun e w' => e = .returned (.tuple #[.int .i64 (l.countP (· < x) : Nat), .bool (l.contains x)]) ∧ Below w.heap.size w w' := by
  rcases Nat.eq_zero_or_pos n with h | h
  · subst h
    have l0 : l = [] := List.eq_nil_of_length_eq_zero hr.1
    subst l0
    refine (Try.slices_BinarySearch_int_empty A c x w).mono ?_
    rintro e w' ⟨rfl, rfl⟩
    exact ⟨rfl, Below.refl _ _⟩
  · obtain ⟨b, off, rfl, _, hc⟩ := hr.at h
    have htk : l.take n = l := List.take_of_length_le (by rw [hr.1]; exact Nat.le_refl _)
    refine (Try.slices_BinarySearch_int b off n c l x w (by rw [hr.1]; exact Nat.le_refl _) (by omega) (fun j hj => hc j (by rw [← hr.1]; exact hj)) (by rw [htk]; exact hs)).mono ?_
    rintro e w' ⟨rfl, q, rfl⟩
    rw [htk]
    exact ⟨rfl, below_drewN _ _⟩

set_option maxRecDepth 100000 in
set_option maxHeartbeats 4000000 in
theorem put_wr (A : Option Addr) (n c : Nat) (l : List Int) (x : Int) (I : Nat) (w : World) (hr : Row w A n l) (hm : n < 64) (hb : Btw 0 16777216 l) (hs : l.Pairwise (· ≤ ·)) (hx : 0 ≤ x ∧ x ≤ 16777216) (hI : l.countP (· < x) = I) :
    Calls Try.prog 79 #[.slice A n c, .int .i64 x] w fun e w' => ∃ A' c', e = .returned (.tuple #[.slice A' (n + 1) c', .int .i64 0]) ∧ Fresh w' w.heap.size A' (n + 1) c' (ins I x l) ∧ Below w.heap.size w w' := by
  have hIn : I ≤ n := by rw [← hI, ← hr.1]; exact List.countP_le_length
  have HL := Lib.hid (list_ok A n c l w hr (by omega) hb)
  have HV := Lib.hid (val_ok x hx.1 hx.2)
  have hso : ∀ w', Row w' A n l → _ := fun w' h => isSorted_ok A n c l w' h (by omega) hs
  have hbs : ∀ w', Row w' A n l → _ := fun w' h => bs_ok A n c l x w' h (by omega) hs
  simp only [hI] at hbs
  have hcl : ∀ w', Row w' A n l → _ := fun w' h => clone_own A n c l w' h (by omega)
  have HSo := Lib.hid hso
  have HBs := Lib.hid hbs
  have HCl := Lib.hid hcl
  have HR := Lib.hid hr
  have n0 : ¬ (n : Int) = 64 := by omega
  clear hso hbs hcl hr hb hs hx hI
  go_enter Try.func79, Try.ntmps79
  go_wp2_with fail
  refine (HL.out).mono ?_
  rintro e w' ⟨rfl, rfl⟩
  go_wp2_with fail
  refine (HSo.out _ HR.out).mono ?_
  rintro e w1 ⟨rfl, hb1⟩
  have z1 := hb1.size
  have c1 := Below.cells hb1
  have f1 := Below.frozens hb1
  try simp only [World.size_alloc, World.size_setCell, World.size_drew] at z1 c1 f1
  go_wp2_with fail
  refine (HV.out _).mono ?_
  rintro e w' ⟨rfl, rfl⟩
  go_wp2_with fail
  refine (HBs.out _ (HR.out.below (by repeat (first | (with_reducible exact Below.refl _ _) | ((with_reducible refine Below.alloc ?_ ?_ _); rotate_left; (next => ((try dsimp only); (try simp only [World.size_alloc, World.size_setCell, World.size_drew]); omega))) | ((with_reducible refine Below.setCell ?_ ?_ _); rotate_left; (next => ((try dsimp only); (try simp only [World.size_alloc, World.size_setCell, World.size_drew]); omega))) | (with_reducible refine Below.drew ?_) | ((with_reducible refine Below.trans ?_ (Below.mono hb1 ?_)); rotate_left; (next => ((try dsimp only); (try simp only [World.size_alloc, World.size_setCell, World.size_drew]); omega))))))).mono ?_
  rintro e w2 ⟨rfl, hb2⟩
  have z2 := hb2.size
  have c2 := Below.cells hb2
  have f2 := Below.frozens hb2
  try simp only [World.size_alloc, World.size_setCell, World.size_drew] at z2 c2 f2
  go_wp2_with fail
  refine (HCl.out _ (HR.out.below (by repeat (first | (with_reducible exact Below.refl _ _) | ((with_reducible refine Below.alloc ?_ ?_ _); rotate_left; (next => ((try dsimp only); (try simp only [World.size_alloc, World.size_setCell, World.size_drew]); omega))) | ((with_reducible refine Below.setCell ?_ ?_ _); rotate_left; (next => ((try dsimp only); (try simp only [World.size_alloc, World.size_setCell, World.size_drew]); omega))) | (with_reducible refine Below.drew ?_) | ((with_reducible refine Below.trans ?_ (Below.mono hb2 ?_)); rotate_left; (next => ((try dsimp only); (try simp only [World.size_alloc, World.size_setCell, World.size_drew]); omega))) | ((with_reducible refine Below.trans ?_ (Below.mono hb1 ?_)); rotate_left; (next => ((try dsimp only); (try simp only [World.size_alloc, World.size_setCell, World.size_drew]); omega))))))).mono ?_
  rintro e w3 ⟨v, rfl, own3, hb3⟩
  have z3 := hb3.size
  obtain ⟨A3, c3, rfl, _, _, _⟩ := own_form own3
  have HO := Lib.hid own3
  clear own3 c1 f1 c2 f2
  go_wp2_with fail
  refine (insert_wr A3 n c3 I l x w3.heap.size w2.heap.size _ _ (own_below HO.out ((Below.refl _ _).alloc (Nat.le_refl _) _)) (heap_alloc_new _ _) (fun k hk => by have := (World.ownsRow.lt HO.out k hk).2; omega) hIn (by omega) (by simp; omega)).mono ?_
  rintro e w4 ⟨A4, c4, rfl, R4, hb4⟩
  have HR4 := Lib.hid R4
  clear R4
  go_wp2_with fail
  go_ret2
  exact ⟨A4, c4, rfl, HR4.out.old (Below.size (show Below w.heap.size w w2 from (by repeat (first | (with_reducible exact Below.refl _ _) | ((with_reducible refine Below.alloc ?_ ?_ _); rotate_left; (next => ((try dsimp only); (try simp only [World.size_alloc, World.size_setCell, World.size_drew]); omega))) | ((with_reducible refine Below.setCell ?_ ?_ _); rotate_left; (next => ((try dsimp only); (try simp only [World.size_alloc, World.size_setCell, World.size_drew]); omega))) | (with_reducible refine Below.drew ?_) | ((with_reducible refine Below.trans ?_ (Below.mono hb2 ?_)); rotate_left; (next => ((try dsimp only); (try simp only [World.size_alloc, World.size_setCell, World.size_drew]); omega))) | ((with_reducible refine Below.trans ?_ (Below.mono hb1 ?_)); rotate_left; (next => ((try dsimp only); (try simp only [World.size_alloc, World.size_setCell, World.size_drew]); omega))))))), (by repeat (first | (with_reducible exact Below.refl _ _) | ((with_reducible refine Below.alloc ?_ ?_ _); rotate_left; (next => ((try dsimp only); (try simp only [World.size_alloc, World.size_setCell, World.size_drew]); omega))) | ((with_reducible refine Below.setCell ?_ ?_ _); rotate_left; (next => ((try dsimp only); (try simp only [World.size_alloc, World.size_setCell, World.size_drew]); omega))) | (with_reducible refine Below.drew ?_) | ((with_reducible refine Below.trans ?_ (Below.mono hb4 ?_)); rotate_left; (next => ((try dsimp only); (try simp only [World.size_alloc, World.size_setCell, World.size_drew]); omega))) | ((with_reducible refine Below.trans ?_ (Below.mono hb3 ?_)); rotate_left; (next => ((try dsimp only); (try simp only [World.size_alloc, World.size_setCell, World.size_drew]); omega))) | ((with_reducible refine Below.trans ?_ (Below.mono hb2 ?_)); rotate_left; (next => ((try dsimp only); (try simp only [World.size_alloc, World.size_setCell, World.size_drew]); omega))) | ((with_reducible refine Below.trans ?_ (Below.mono hb1 ?_)); rotate_left; (next => ((try dsimp only); (try simp only [World.size_alloc, World.size_setCell, World.size_drew]); omega)))))⟩

def del (i : Nat) (l : List Int) : List Int := l.take i ++ l.drop (i + 1)
theorem del_len (i : Nat) (l : List Int) (h : i < l.length) : (del i l).length = l.length - 1 := by
  simp [del]; omega
theorem delete_wr (A : Option Addr) (n c I base : Nat) (l : List Int) (w : World) (own : w.ownsRow base 3 1 (.slice A n c) n (l.map (Value.int .i64))) (hI : I < n) (hn : n ≤ 1000) :
    Calls Try.prog 132 #[.slice A n c, .int .i64 I, .int .i64 ((I : Int) + 1)] w fun e w' => ∃ A', e = .returned (.slice A' (n - 1) c) ∧ Fresh w' base A' (n - 1) c (del I l) ∧ Below base w w' := by
  have hl : l.length = n := by have := own.1; simpa using this
  rcases own.2 with ⟨h, h0⟩ | ⟨g, c', cur, h, hbg, hg, hnc, hcm, hcs, htk⟩
  · omega
  · injection h with hA _ hc
    subst hA hc
    have cc := cur_cells hl hnc hcs htk
    obtain ⟨hgc, hgf⟩ := block_cells hg
    have htl : l.take n = l := List.take_of_length_le (by omega)
    refine (Try.slices_Delete_int_cells g 0 n c I (I + 1) l w (by omega) hnc (by unfold maxLen at hcm; omega) (by omega) (by omega) (fun j hj => by rw [hgc, Nat.zero_add]; exact cc j (by omega)) (fun j hj => hgf _)).mono ?_
    rintro e w' ⟨rfl, q, rfl⟩
    have e1 : n - (I + 1 - I) = n - 1 := by omega
    have e2 : I + 1 - I = 1 := by omega
    rw [e1, e2, htl]
    have hdl : (del I l).length = n - 1 := by rw [del_len _ _ (by omega), hl]
    refine ⟨_, rfl, ⟨⟨hdl, fun _ => ⟨g, 0, rfl, by rw [cellsSet_size]; exact lt_of_some hg, fun k hk => ?_⟩⟩, ((own_wr own).drewN _).setCells _ _ _, by omega, hcm⟩, Below.cellsSet hbg _ _ _ (below_drewN _ _)⟩
    have hlen : (((l.take I ++ l.drop (I + 1)) ++ List.replicate 1 0).map (Value.int .i64)).length = n := by
      have := hdl
      unfold del at this
      rw [List.length_map, List.length_append, this]
      simp; omega
    rw [World.cell?_setCells_in g _ 0 _ (fun j hj => by
      show (w.cell? _).isSome = true
      rw [hgc, Nat.zero_add, cc j (by omega)]
      rfl) k (by omega)]
    have hk2 : k < (l.take I ++ l.drop (I + 1)).length := by unfold del at hdl; omega
    unfold del
    simp only [List.getElem_map, List.getElem_append_left hk2, List.getD, List.getElem?_eq_getElem hk2, Option.getD_some]

set_option maxRecDepth 100000 in
set_option maxHeartbeats 4000000 in
theorem cut_wr (A : Option Addr) (n c : Nat) (l : List Int) (x : Int) (I : Nat) (w : World) (hr : Row w A n l) (hm : n ≤ 64) (hb : Btw 0 16777216 l) (hs : l.Pairwise (· ≤ ·)) (hx : x ∈ l) (hI : l.countP (· < x) = I) (hIn : I < n) :
    Calls Try.prog 80 #[.slice A n c, .int .i64 x] w fun e w' => ∃ A' c', e = .returned (.tuple #[.slice A' (n - 1) c', .int .i64 0]) ∧ Fresh w' w.heap.size A' (n - 1) c' (del I l) ∧ Below w.heap.size w w' := by
  have HL := Lib.hid (list_ok A n c l w hr (by omega) hb)
  have hso : ∀ w', Row w' A n l → _ := fun w' h => isSorted_ok A n c l w' h (by omega) hs
  have hbs : ∀ w', Row w' A n l → _ := fun w' h => bs_ok A n c l x w' h (by omega) hs
  simp only [hI, List.contains_iff_mem.2 hx] at hbs
  have hcl : ∀ w', Row w' A n l → _ := fun w' h => clone_own A n c l w' h (by omega)
  have HSo := Lib.hid hso
  have HBs := Lib.hid hbs
  have HCl := Lib.hid hcl
  have HR := Lib.hid hr
  have i1 : (I : Int) < 64 := by omega
  clear hso hbs hcl hr hb hs hx hI
  go_enter Try.func80, Try.ntmps80
  go_wp2_with fail
  refine (HL.out).mono ?_
  rintro e w' ⟨rfl, rfl⟩
  go_wp2_with fail
  refine (HSo.out _ HR.out).mono ?_
  rintro e w1 ⟨rfl, hb1⟩
  have z1 := hb1.size
  have c1 := Below.cells hb1
  have f1 := Below.frozens hb1
  try simp only [World.size_alloc, World.size_setCell, World.size_drew] at z1 c1 f1
  go_wp2_with fail
  refine (HBs.out _ (HR.out.below (by repeat (first | (with_reducible exact Below.refl _ _) | ((with_reducible refine Below.alloc ?_ ?_ _); rotate_left; (next => ((try dsimp only); (try simp only [World.size_alloc, World.size_setCell, World.size_drew]); omega))) | ((with_reducible refine Below.setCell ?_ ?_ _); rotate_left; (next => ((try dsimp only); (try simp only [World.size_alloc, World.size_setCell, World.size_drew]); omega))) | (with_reducible refine Below.drew ?_) | ((with_reducible refine Below.trans ?_ (Below.mono hb1 ?_)); rotate_left; (next => ((try dsimp only); (try simp only [World.size_alloc, World.size_setCell, World.size_drew]); omega))))))).mono ?_
  rintro e w2 ⟨rfl, hb2⟩
  have z2 := hb2.size
  have c2 := Below.cells hb2
  have f2 := Below.frozens hb2
  try simp only [World.size_alloc, World.size_setCell, World.size_drew] at z2 c2 f2
  go_wp2_with fail
  refine (HCl.out _ (HR.out.below (by repeat (first | (with_reducible exact Below.refl _ _) | ((with_reducible refine Below.alloc ?_ ?_ _); rotate_left; (next => ((try dsimp only); (try simp only [World.size_alloc, World.size_setCell, World.size_drew]); omega))) | ((with_reducible refine Below.setCell ?_ ?_ _); rotate_left; (next => ((try dsimp only); (try simp only [World.size_alloc, World.size_setCell, World.size_drew]); omega))) | (with_reducible refine Below.drew ?_) | ((with_reducible refine Below.trans ?_ (Below.mono hb2 ?_)); rotate_left; (next => ((try dsimp only); (try simp only [World.size_alloc, World.size_setCell, World.size_drew]); omega))) | ((with_reducible refine Below.trans ?_ (Below.mono hb1 ?_)); rotate_left; (next => ((try dsimp only); (try simp only [World.size_alloc, World.size_setCell, World.size_drew]); omega))))))).mono ?_
  rintro e w3 ⟨v, rfl, own3, hb3⟩
  have z3 := hb3.size
  obtain ⟨A3, c3, rfl, _, _, _⟩ := own_form own3
  have HO := Lib.hid own3
  clear own3 c1 f1 c2 f2
  go_wp2_with fail
  refine (delete_wr A3 n c3 I w2.heap.size l _ HO.out hIn (by omega)).mono ?_
  rintro e w4 ⟨A4, rfl, R4, hb4⟩
  have HR4 := Lib.hid R4
  clear R4
  go_wp2_with fail
  go_ret2
  exact ⟨A4, c3, rfl, HR4.out.old (Below.size (show Below w.heap.size w w2 from (by repeat (first | (with_reducible exact Below.refl _ _) | ((with_reducible refine Below.alloc ?_ ?_ _); rotate_left; (next => ((try dsimp only); (try simp only [World.size_alloc, World.size_setCell, World.size_drew]); omega))) | ((with_reducible refine Below.setCell ?_ ?_ _); rotate_left; (next => ((try dsimp only); (try simp only [World.size_alloc, World.size_setCell, World.size_drew]); omega))) | (with_reducible refine Below.drew ?_) | ((with_reducible refine Below.trans ?_ (Below.mono hb2 ?_)); rotate_left; (next => ((try dsimp only); (try simp only [World.size_alloc, World.size_setCell, World.size_drew]); omega))) | ((with_reducible refine Below.trans ?_ (Below.mono hb1 ?_)); rotate_left; (next => ((try dsimp only); (try simp only [World.size_alloc, World.size_setCell, World.size_drew]); omega))))))), (by repeat (first | (with_reducible exact Below.refl _ _) | ((with_reducible refine Below.alloc ?_ ?_ _); rotate_left; (next => ((try dsimp only); (try simp only [World.size_alloc, World.size_setCell, World.size_drew]); omega))) | ((with_reducible refine Below.setCell ?_ ?_ _); rotate_left; (next => ((try dsimp only); (try simp only [World.size_alloc, World.size_setCell, World.size_drew]); omega))) | (with_reducible refine Below.drew ?_) | ((with_reducible refine Below.trans ?_ (Below.mono hb4 ?_)); rotate_left; (next => ((try dsimp only); (try simp only [World.size_alloc, World.size_setCell, World.size_drew]); omega))) | ((with_reducible refine Below.trans ?_ (Below.mono hb3 ?_)); rotate_left; (next => ((try dsimp only); (try simp only [World.size_alloc, World.size_setCell, World.size_drew]); omega))) | ((with_reducible refine Below.trans ?_ (Below.mono hb2 ?_)); rotate_left; (next => ((try dsimp only); (try simp only [World.size_alloc, World.size_setCell, World.size_drew]); omega))) | ((with_reducible refine Below.trans ?_ (Below.mono hb1 ?_)); rotate_left; (next => ((try dsimp only); (try simp only [World.size_alloc, World.size_setCell, World.size_drew]); omega)))))⟩
theorem put_ok (A : Option Addr) (n c : Nat) (l : List Int) (x : Int) (I : Nat) (w : World) (hr : Row w A n l) (hm : n < 64) (hb : Btw 0 16777216 l) (hs : l.Pairwise (· ≤ ·)) (hx : 0 ≤ x ∧ x ≤ 16777216) (hI : l.countP (· < x) = I) :
    Calls Try.prog 79 #[.slice A n c, .int .i64 x] w fun e w' => ∃ A' c', e = .returned (.tuple #[.slice A' (n + 1) c', .int .i64 0]) ∧ Row w' A' (n + 1) (ins I x l) ∧ Below w.heap.size w w' :=
  (put_wr A n c l x I w hr hm hb hs hx hI).mono fun e w' ⟨A2, c2, h1, h2, h3⟩ => ⟨A2, c2, h1, h2.row, h3⟩
theorem delete_ok (A : Option Addr) (n c I base : Nat) (l : List Int) (w : World) (own : w.ownsRow base 3 1 (.slice A n c) n (l.map (Value.int .i64))) (hI : I < n) (hn : n ≤ 1000) :
    Calls Try.prog 132 #[.slice A n c, .int .i64 I, .int .i64 ((I : Int) + 1)] w fun e w' => ∃ A', e = .returned (.slice A' (n - 1) c) ∧ Row w' A' (n - 1) (del I l) ∧ Below base w w' :=
  (delete_wr A n c I base l w own hI hn).mono fun e w' ⟨A2, h1, h2, h3⟩ => ⟨A2, h1, h2.row, h3⟩
theorem cut_ok (A : Option Addr) (n c : Nat) (l : List Int) (x : Int) (I : Nat) (w : World) (hr : Row w A n l) (hm : n ≤ 64) (hb : Btw 0 16777216 l) (hs : l.Pairwise (· ≤ ·)) (hx : x ∈ l) (hI : l.countP (· < x) = I) (hIn : I < n) :
    Calls Try.prog 80 #[.slice A n c, .int .i64 x] w fun e w' => ∃ A' c', e = .returned (.tuple #[.slice A' (n - 1) c', .int .i64 0]) ∧ Row w' A' (n - 1) (del I l) ∧ Below w.heap.size w w' :=
  (cut_wr A n c l x I w hr hm hb hs hx hI hIn).mono fun e w' ⟨A2, c2, h1, h2, h3⟩ => ⟨A2, c2, h1, h2.row, h3⟩
end Go.Proofs.Ytpomdnglknbanaa
