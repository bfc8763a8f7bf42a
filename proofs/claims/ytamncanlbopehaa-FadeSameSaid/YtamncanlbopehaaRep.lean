/-
  The walk of slices.Repeat at a slice of one integer.
-/
import Derived.Test.YtamncanlbopehaaLs
import Derived.Test.YtamncanlbopehaaShelf
import Derived.Laws.CopyOwn
import Derived.OwnWalk
import Derived.Deep.RegionHeld3
import Derived.Laws.Rows
set_option linter.unusedSimpArgs false
set_option linter.unusedVariables false
namespace Go.Proofs.Ytamncanlbopehaa
open Go.RowKit

/-- So far filled. -/
def fillC (x : Int) (n m : Nat) : List Value := List.replicate m (.int .i64 x) ++ List.replicate (n - m) (.int .i64 0)
theorem fillC_len {x : Int} {n m : Nat} (h : m ≤ n) : (fillC x n m).length = n := by simp [fillC]; omega
theorem fillC_splice {x : Int} {n m c : Nat} (h : m + c ≤ n) : splice (fillC x n m) m (List.replicate c (.int .i64 x)) = fillC x n (m + c) := by
  unfold splice fillC
  have h1 : (List.replicate m (Value.int .i64 x)).length = m := by simp
  rw [List.take_left' h1]
  rw [List.length_replicate, List.drop_append, List.drop_eq_nil_of_le (by simp)]
  simp only [List.length_replicate, List.nil_append, List.drop_replicate]
  rw [← List.append_assoc, List.replicate_append_replicate]
  congr 2
  omega
theorem fillC_zero (x : Int) (n : Nat) : fillC x n 0 = List.replicate n (.int .i64 0) := by simp [fillC]
theorem fillC_full (x : Int) (n : Nat) : fillC x n n = List.replicate n (.int .i64 x) := by simp [fillC]
theorem fillC_get {x : Int} {n m j : Nat} (h : j < m) : (fillC x n m)[j]? = some (.int .i64 x) := by
  unfold fillC
  rw [List.getElem?_append_left (by simpa using h)]
  simp [h]
theorem rep_one (c : Nat) (x : Int) : ∀ v ∈ List.replicate c (Value.int .i64 x), v.oneCell' = true := by
  intro v hv; rw [(List.mem_replicate.1 hv).2]; rfl
theorem made_zero (n : Nat) : (madeCells #[Value.int .i64 0] n).toList = List.replicate n (.int .i64 0) := by
  apply List.ext_getElem?
  intro i
  simp only [madeCells, Array.toList_map, Array.toList_range, List.getElem?_map]
  by_cases h : i < n
  · rw [List.getElem?_range h, List.getElem?_replicate, if_pos h]
    simp [Value.cells, Nat.mod_one]
  · rw [List.getElem?_eq_none (by simpa using h), List.getElem?_replicate, if_neg h]; rfl
theorem size_int : (Try.prog.info? 3).map (·.size) = some 1 := by kernel_rfl
theorem heap_fill {w : World} {g n m : Nat} {x : Int} {T : TypeId} (h : w.heap[g]? = some (.cells (fillC x n m).toArray T (0, 0))) {c : Nat} (hc : c ≤ m) :
    ∀ j v, (List.replicate c (Value.int .i64 x))[j]? = some v → w.cell? ((⟨g, 0, none⟩ : Addr).add j) = some v := by
  intro j v hv
  have hj : j < c := by have := (List.getElem?_eq_some_iff.1 hv).1; simpa using this
  rw [Go.WideShapes.add_plain, Nat.zero_add, cell_of_row _ _ _ _ _ _ h, List.getElem?_toArray, fillC_get (by omega)]
  rw [List.getElem?_replicate, if_pos hj] at hv
  exact hv

set_option maxRecDepth 100000 in
set_option maxHeartbeats 4000000 in
theorem repeat_ok (b c0 : Nat) (x : Int) (n : Nat) (w : World) (hx : w.cell? ⟨b, 0, none⟩ = some (.int .i64 x)) (h1 : 1 ≤ n) (hm : n ≤ 1000000) :
    Calls Try.prog 39 #[.slice (some ⟨b, 0, none⟩) 1 c0, .int .i64 n] w fun e w' => ∃ A c, e = .returned (.slice A n c) ∧ InRow w' A n c (List.replicate n x) ∧ Below w.heap.size w w' := by
  obtain ⟨i0, hi, hz0, hz1, hz2⟩ := info_parts info_int
  have hmul := fun w => Try.bits_Mul 1 n (by omega) (by omega) w
  rw [show 1 * n / 18446744073709551616 = 0 by omega, show 1 * n % 18446744073709551616 = n by omega] at hmul
  have HMul := Lib.hid hmul
  have hbw : b < w.heap.size := World.block_lt_of_cell? w _ hx
  have HX := Lib.hid hx
  clear hmul hx
  go_enter Try.func39, Try.ntmps39
  go_wp2_with fail
  refine (HMul.out _).mono ?_
  rintro e w0 ⟨rfl, hw0⟩
  obtain rfl : w = w0 := hw0.symm
  have hb2 : i0.bytes * n ≤ 281474976710656 := by rw [hz2]; omega
  have hb3 : n ≤ maxLen := by unfold maxLen; omega
  have HB2 := Lib.hid hb2
  have HB3 := Lib.hid hb3
  clear hb2 hb3
  go_wp2_with (at_make; refine wpList_make_full _ rfl _ _ 28 rfl w.heap.size 3 i0 (.int .i64 0) 1 Try.underlying28 hi hz0 hz1 .i64 .i64 _ _ n rfl rfl rfl rfl HB2.out HB3.out (Nat.le_refl _) ?_)
  intro w1 own1 gr1
  have own2 : w1.ownsRow w.heap.size 3 1 (.slice (some ⟨w.heap.size, 0, none⟩) n n) n (List.replicate n (.int .i64 0)) := by rw [← made_zero]; exact own1
  obtain ⟨cur, hcur, hh⟩ : ∃ cur : Array Value, cur.toList = List.replicate n (.int .i64 0) ∧ w1.heap[w.heap.size]? = some (.cells cur 3 (0, 0)) := by
    rcases own2.2 with ⟨e, _⟩ | ⟨g, cap, cur, e, _, hh, _, _, hs, hx⟩
    · cases e
    · injection e with e1 e2 e3
      injection e1 with e1
      injection e1 with e1
      subst e1 e3
      refine ⟨cur, ?_, hh⟩
      rwa [List.take_of_length_le (by rw [Array.length_toList]; omega)] at hx
  have hfill : w1.heap[w.heap.size]? = some (.cells (fillC x n 0).toArray 3 (0, 0)) := by
    rw [fillC_zero, ← hcur]; simpa using hh
  have bel1 : Below w.heap.size w w1 := (Below.refl _ _).grown gr1 (Nat.le_refl _) (fun g hg => by cases hg)
  have sz1 := gr1.size
  have hsrc : ∀ j v, [Value.int .i64 x][j]? = some v → w1.cell? ((⟨b, 0, none⟩ : Addr).add j) = some v := by
    intro j v hj
    match j, hj with
    | 0, hj => simp at hj; subst hj; rw [Go.WideShapes.add_plain, Nat.zero_add, bel1.cell (p := ⟨b, 0, none⟩) hbw]; exact HX.out
  have hfit : 0 + [Value.int .i64 x].length ≤ (fillC x n 0).length := by rw [fillC_len (by omega)]; simpa using h1
  have hn1 : [Value.int .i64 x].length = Nat.min 1 n := by simp [Nat.min_def]; omega
  have hpos : 0 < [Value.int .i64 x].length → some (⟨w.heap.size, 0, none⟩ : Addr) = some ⟨w.heap.size, 0, none⟩ ∧ ∃ ad, some (⟨b, 0, none⟩ : Addr) = some ad ∧ ∀ j v, [Value.int .i64 x][j]? = some v → w1.cell? (ad.add j) = some v := fun _ => ⟨rfl, _, rfl, hsrc⟩
  have HFill := Lib.hid hfill
  have HFit := Lib.hid hfit
  have HN1 := Lib.hid hn1
  have HPos := Lib.hid hpos
  have HB1 := Lib.hid bel1
  clear hfill hfit hn1 hpos bel1 hsrc hcur hh own1 own2 gr1
  go_wp2_with (with_reducible refine wpList_copy_splice rfl _ _ _ _ rfl 3 Try.underlying28 size_int _ _ _ _ _ _ rfl rfl w.heap.size 0 (fillC x n 0) 3 HFill.out [.int .i64 x] HN1.out HPos.out HFit.out (app1_one _ _) w.heap.size w HB1.out (Nat.le_refl _) ?_)
  intro w2 hg2 bel2
  have hg3 : w2.heap[w.heap.size]? = some (.cells (fillC x n 1).toArray 3 (0, 0)) := by
    have := hg2.out
    rwa [show [Value.int .i64 x] = List.replicate 1 (Value.int .i64 x) from rfl, fillC_splice (m := 0) (c := 1) (by omega)] at this
  have HG := Lib.hid hg3
  clear hg2 hg3
  go_wp2_with fail
  go_loopw [8] (fun i wr => ∃ m : Nat, 1 ≤ m ∧ m ≤ n ∧ i = .int .i64 m ∧ wr.heap[w.heap.size]? = some (.cells (fillC x n m).toArray 3 (0, 0)) ∧ Below w.heap.size w wr) (fun i _ => n - (intOf i).toNat)
  case atStart => exact ⟨1, by omega, h1, rfl, HG.out, bel2⟩
  case round =>
    obtain ⟨m, m1, mn, rfl, hg, bel⟩ := hrel
    by_cases hlt : m < n
    · obtain ⟨c, hc⟩ : ∃ c, Nat.min m (n - m) = c := ⟨_, rfl⟩
      have cb : 1 ≤ c ∧ c ≤ m ∧ m + c ≤ n := by simp only [Nat.min_def] at hc; split at hc <;> omega
      have i0' : (0 : Int) ≤ (m : Int) := Int.natCast_nonneg _
      have i1 : (m : Int) ≤ (n : Int) := by omega
      have nm : ¬ n = m := by omega
      have e9 : IntKind.i64.wrap ((m : Int) + (c : Int)) = (m : Int) + (c : Int) := IntWalk.i64_in _ (by omega)
      have hcn : (List.replicate c (Value.int .i64 x)).length = Nat.min m (n - m) := by rw [List.length_replicate, hc]
      have hcf : m + (List.replicate c (Value.int .i64 x)).length ≤ (fillC x n m).length := by rw [List.length_replicate, fillC_len mn]; omega
      have hsp := fillC_splice (x := x) cb.2.2
      have HSP := Lib.hid hsp
      have HCN := Lib.hid hcn
      have HCF := Lib.hid hcf
      have HGW := Lib.hid hg
      have HFL := Lib.hid (heap_fill hg cb.2.1)
      have cc : (List.replicate c (Value.int .i64 x)).length = c := by simp
      clear hsp hcn hcf hg hc
      go_wp2_with fail
      go_region_held3 (fun w' => True) (exact trivial)
        ((refine step_copy_splice (by rfl) _ _ _ _ (by rfl) 3 Try.underlying28 size_int _ _ _ _ _ _ (by rfl) (by rfl) w.heap.size m (fillC x n m) 3 HGW.out (List.replicate c (.int .i64 x)) HCN.out
            (fun _ => ⟨by simp, ⟨w.heap.size, 0, none⟩, rfl, HFL.out⟩) HCF.out (rep_one c x) w.heap.size w bel.drew (Nat.le_refl _) ?_; intro wq hgq belq))
      all_goals
        have hg2 := hgq.out
        rw [HSP.out] at hg2
        have HG2 := Lib.hid hg2
        clear hgq hg2
        rw [cc]
        go_wp2_with fail
        go_roundw
        case rel => exact ⟨m + c, by omega, by omega, by go_num, HG2.out, belq⟩
        case measure => simp [intOf]; omega
    · obtain rfl : n = m := by omega
      rw [fillC_full] at hg
      have hrow : InRow wr (some ⟨w.heap.size, 0, none⟩) n n (List.replicate n x) := by
        refine ⟨⟨by simp, fun _ => ⟨w.heap.size, 0, rfl, (Array.getElem?_eq_some_iff.1 hg).1, fun j hj => ?_⟩⟩, Nat.le_refl _, HB3.out, fun h => by cases h⟩
        rw [cell_of_row _ _ _ _ _ _ hg, Nat.zero_add, List.getElem?_toArray, List.getElem?_replicate, if_pos hj]
        simp [List.getD, hj]
      have HRW := Lib.hid hrow
      clear hg hrow
      go_wp2_with fail
      go_ret
      exact ⟨_, _, rfl, HRW.out, bel⟩
end Go.Proofs.Ytamncanlbopehaa
