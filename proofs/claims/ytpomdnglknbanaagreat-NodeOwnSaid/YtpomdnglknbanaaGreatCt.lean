/-
  The walks of package crc: table, Of.
-/
import Derived.Test.YtpomdnglknbanaaGreatCr
import Derived.Test.YtpomdnglknbanaaGreatCm
import Derived.Test.YtpomdnglknbanaaGreatQT
import Derived.Laws.BitsAllLaws
import Derived.Laws.Strings3
import Derived.Laws.ResultCell
import Derived.Deep.WholeRow
import Derived.Lib.Hide
set_option linter.unusedSimpArgs false
set_option linter.unusedVariables false
namespace Go.Proofs.YtpomdnglknbanaaGreat
open Go.RowKit

/-- The table as far as it is filled. -/
def tabC (k : Nat) : Array Value := (Array.range 256).map fun i => Value.int .u32 (if i < k then (stn 8 i : Int) else 0)
theorem tabC_size (k : Nat) : (tabC k).size = 256 := by simp [tabC]
theorem tabC_zero : Array.replicate 256 (Value.int .u32 0) = tabC 0 := by
  apply Array.ext
  · simp [tabC]
  · intro i h1 h2; simp [tabC]
theorem tabC_succ {k : Nat} (h : k < 256) : (tabC k).setIfInBounds k (.int .u32 (stn 8 k : Int)) = tabC (k + 1) := by
  apply Array.ext
  · simp [tabC]
  · intro i h1 h2
    have hi : i < (tabC k).size := by simpa using h1
    rw [Array.getElem_setIfInBounds hi]
    simp only [tabC, Array.getElem_map, Array.getElem_range]
    by_cases c : k = i
    · subst c; simp
    · rw [if_neg c]
      by_cases d : i < k
      · rw [if_pos d, if_pos (by omega)]
      · rw [if_neg d, if_neg (by omega)]
theorem tabC_get {k : Nat} (h : k < 256) : (tabC 256)[k]? = some (.int .u32 (stn 8 k : Int)) := by
  simp [tabC, h]
theorem tabC_one (k : Nat) : (tabC k).all (·.oneCell') = true := by
  rw [Array.all_eq_true_iff_forall_mem]
  intro x hx
  obtain ⟨i, _, rfl⟩ := Array.mem_map.1 hx
  rfl
theorem info88 : (Tryz.prog.info? 129).map (fun i => (i.zero, i.size)) = some (some (.agg (Array.replicate 256 (.int .u32 0))), 256) := by kernel_rfl
theorem stp_even {c : Nat} (h : ¬ c % 2 = 1) : stp c = c / 2 := by unfold stp; rw [if_neg h]
theorem stp_odd {c : Nat} (h : c % 2 = 1) : stp c = c / 2 ^^^ 3988292384 := by unfold stp; rw [if_pos h]

theorem setRow_below {B : Nat} {w w1 : World} (h : Below B w w1) {g : Nat} (hg : B ≤ g) (cs : Array Value) : Below B w (w1.setRow g cs) :=
  h.trans ⟨rfl, rfl, rfl, by simp [World.setRow], fun k hk => by
    simp only [World.setRow, Array.getElem?_modify]
    rw [if_neg (by omega)]⟩
theorem setRow_at {w : World} {g : Nat} {old cs : Array Value} {T : TypeId} {fz : Nat × Nat} (h : w.heap[g]? = some (.cells old T fz)) : (w.setRow g cs).heap[g]? = some (.cells cs T fz) := by
  simp [World.setRow, Array.getElem?_modify, h]
theorem bit_one (c : Nat) (h : c < 4294967296) : bits .and .u32 (c : Int) 1 = ((c % 2 : Nat) : Int) := by
  have := u32_and_nat c 1 h (by omega)
  rw [show ((1 : Nat) : Int) = 1 from rfl] at this
  rw [this, Nat.and_one_is_mod]

theorem results_cell_one {fn : Func} {p : Tmp} {ty : TypeId} (h : fn.results = #[.cell p ty]) {tmps : Array Value} {P : Program} {w : World} {a : Addr} {v : Value} (hp : tmps.getD p undef = .pointer (some a))
    (hl : (loadVar ty a).run P w = .ok v w) : (results fn tmps).run P w = .ok v w := by
  simp only [results, h]
  rw [Array.getD_eq_getD_getElem?] at hp
  simp [Sem.run_bind, Result.andThen, hp, asAddr, hl]

set_option maxHeartbeats 4000000 in
set_option maxRecDepth 1000000 in
theorem table_ok (w : World) :
    Calls Tryz.prog 64 #[] w fun e w' => e = .returned (.agg (tabC 256)) ∧ Below w.heap.size w w' := by
  have hz := zero_of_info info88
  obtain ⟨hv88, hi88⟩ := hz
  have t88 := Tryz.underlying129
  go_enter Tryz.func64, Tryz.ntmps64
  go_wp2
  rw [tabC_zero]
  obtain ⟨w1, hw1⟩ : ∃ w1, w1 = w.alloc (.cells (tabC 0) 129) := ⟨_, rfl⟩
  have bel1 : Below w.heap.size w w1 := by rw [hw1]; exact (Below.refl _ _).alloc (Nat.le_refl _) _
  have sz1 : w1.heap.size = w.heap.size + 1 := by rw [hw1]; simp
  have blk1 : w1.heap[w.heap.size]? = some (.cells (tabC 0) 129) := by rw [hw1]; exact heap_alloc_last _ _
  rw [← hw1]
  have HB := Lib.hid bel1
  have HK := Lib.hid blk1
  clear hw1 bel1 blk1 hv88
  go_loopw [4] (fun i wr => ∃ k : Nat, k ≤ 256 ∧ i = .int .i64 k ∧ wr = w1.alloc (.cells (tabC k) 129)) (fun i _ => 256 - (intOf i).toNat)
  case atStart => exact ⟨0, Nat.zero_le _, rfl, rfl⟩
  case round =>
    obtain ⟨k, hk, rfl, rfl⟩ := hrel
    by_cases hlt : k < 256
    · have kc : IntKind.u32.wrap (k : Int) = k := by rw [IntKind.wrap_u32']; omega
      go_wp2
      go_loop [3, 9] (fun c i => ∃ (j x : Nat), j ≤ 8 ∧ i = .int .i64 j ∧ c = .int .u32 x ∧ stn j k = x) (fun _ i => 8 - (intOf i).toNat)
      case atStart => exact ⟨0, k, Nat.zero_le _, rfl, rfl, rfl⟩
      case round =>
        obtain ⟨j, x, hj, rfl, rfl, hx⟩ := hrel
        have xb : x < 4294967296 := by rw [← hx]; exact stn_lt j (by omega)
        by_cases hjl : j < 8
        · have hs : stn (j + 1) k = stp x := by rw [stn_add, hx]; rfl
          have HS := Lib.hid hs
          have hbit := bit_one x xb
          by_cases hodd : x % 2 = 1
          · rw [hodd] at hbit
            have hx2 : bits .xor .u32 ((x : Int) / 2) 3988292384 = ((stp x : Nat) : Int) := by
              rw [stp_odd hodd]
              have := u32_xor_nat (x / 2) 3988292384 (by omega) (by omega)
              rw [show ((3988292384 : Nat) : Int) = 3988292384 from rfl] at this
              rw [← this]; rfl
            obtain ⟨y, hy⟩ : ∃ y, stp x = y := ⟨_, rfl⟩
            rw [hy] at HS hx2
            clear hs hx hy
            go_wp2
            go_round
            case rel => exact ⟨j + 1, y, by omega, by go_num, rfl, HS.out⟩
            case measure => simp [intOf]; omega
          · have h0 : x % 2 = 0 := by omega
            rw [h0] at hbit
            have hx2 : (x : Int) / 2 = ((stp x : Nat) : Int) := by rw [stp_even hodd]; rfl
            obtain ⟨y, hy⟩ : ∃ y, stp x = y := ⟨_, rfl⟩
            rw [hy] at HS hx2
            clear hs hx hy
            go_wp2
            go_round
            case rel => exact ⟨j + 1, y, by omega, by go_num, rfl, HS.out⟩
            case measure => simp [intOf]; omega
        · obtain rfl : j = 8 := by omega
          have hset := tabC_succ hlt
          rw [hx] at hset
          have HSet := Lib.hid hset
          have hget : (tabC k)[k]? = some (.int .u32 0) := by simp [tabC, hlt]
          clear hset hx
          go_wp2
          go_roundw
          case rel => exact ⟨k + 1, by omega, by go_num, by rw [← HSet.out]⟩
          case measure => simp [intOf]; omega
    · obtain rfl : k = 256 := by omega
      have hsz := tabC_size 256
      have hld := heap_alloc_last w1 (.cells (tabC 256) 129)
      rw [sz1] at hld
      have hi256 : Option.map (fun x => x.size) (Tryz.prog.info? 129) = some (tabC 256).size := by rw [hsz]; exact hi88
      have hold : (w1.alloc (.cells (tabC 256) 129)).heap[w.heap.size]? = some (.cells (tabC 0) 129) := by
        rw [Below.heap_alloc _ _ _ (by omega)]; exact HK.out
      have HL := Lib.hid hld
      have HI := Lib.hid hi256
      have HO := Lib.hid hold
      clear hld hi256 hold hi88
      have hsc : (storeCells ⟨w.heap.size, 0, none⟩ (tabC 256).toList 0).run Tryz.prog (w1.alloc (.cells (tabC 256) 129)) = .ok () ((w1.alloc (.cells (tabC 256) 129)).setRow w.heap.size (tabC 256)) := by
        have := run_storeVar_row (P := Tryz.prog) _ _ _ 129 _ (tabC 256) HO.out HI.out (by rw [tabC_size, tabC_size]) (tabC_one _)
        cases hq : Tryz.prog.info? 129 with
        | none => have := HI.out; simp [hq] at this
        | some i =>
          have hs : i.size = 256 := by have := HI.out; rw [hq, hsz] at this; simpa using this
          simpa [storeVar, sizeOf, typeInfo, hq, Value.cells, hs, hsz] using this
      have HS := Lib.hid hsc
      clear hsc
      go_wp2
      refine wp_load_row _ _ rfl _ rfl _ _ _ _ HL.out t88 rfl HI.out ?_
      go_wp2
      rw [HS.out]
      simp only [Result.andThen]
      rw [Oper.upon_skip]
      go_wp2
      (try simp only [Exit.inBlock, Exit.then])
      have hres := run_loadVar_row (P := Tryz.prog) _ _ _ 129 (tabC 256) (0, 0) _ (setRow_at (cs := tabC 256) HO.out) t88 rfl HI.out
      exact bodyPost_ret (v := .agg (tabC 256)) (results_cell_one rfl rfl hres) rfl ⟨rfl, setRow_below (HB.out.alloc (by omega) _) (Nat.le_refl _) _⟩

theorem ctabC_at {b : Nat} {w : World} {T : TypeId} {fz : Nat × Nat} (h : w.heap[b]? = some (.cells (tabC 256) T fz)) {i : Nat} (hi : i < 256) : w.cell? ⟨b, i, none⟩ = some (.int .u32 (stn 8 i : Int)) := by
  rw [cell_of_row _ _ _ _ _ _ h, tabC_get hi]
end Go.Proofs.YtpomdnglknbanaaGreat
