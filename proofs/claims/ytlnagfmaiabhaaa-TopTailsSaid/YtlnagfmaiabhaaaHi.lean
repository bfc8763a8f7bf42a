/-
  Package hist.
-/
import Derived.Test.YtlnagfmaiabhaaaCm
import Derived.Test.YtlnagfmaiabhaaaSl
import Derived.Deep.WholeRow
import Derived.Test.YtlnagfmaiabhaaaShelf
import Derived.Test.YtlnagfmaiabhaaaQT
import Derived.Lib.Hide
set_option linter.unusedSimpArgs false
set_option linter.unusedVariables false
namespace Go.Proofs.Ytlnagfmaiabhaaa
open Go.RowKit
def hv (l : List Int) : Array Value := (l.map (Value.int .i64)).toArray
theorem hv_size (l : List Int) : (hv l).size = l.length := by simp [hv]
theorem hv_get (l : List Int) {k : Nat} (h : k < l.length) : (hv l)[k]? = some (.int .i64 (l.getD k 0)) := by
  simp [hv, List.getD, List.getElem?_eq_getElem h]
theorem info46 : (Try.prog.info? 63).map (fun i => (i.zero, i.size)) = some (some (.agg (Array.replicate 26 (.int .i64 0))), 26) := by kernel_rfl
theorem info48 : (Try.prog.info? 65).map (fun i => (i.zero, i.size)) = some (some (.agg (Array.replicate 26 (.int .i64 0))), 26) := by kernel_rfl

theorem run_index26 (w : World) (c : Array Value) (k : Nat) (x : Int) (hk : k < 26) (h : c[k]? = some (.int .i64 x)) : (Instr.index 63 (.agg c) (.int .i64 k)).run Try.prog w = .ok (.int .i64 x) w := by
  have hu := run_underlying (P := Try.prog) Try.underlying63 w
  have ha := Try.isAgg3 w
  have hs := Try.sizeOf3 w
  have h26 : (k : Int) < 26 := by omega
  simp [Instr.index, part, asIntOf, Sem.run_bind, hu, ha, hs, h26, h, Result.andThen]
  intro h; omega

set_option maxHeartbeats 4000000 in
set_option maxRecDepth 100000 in
theorem hcheck_ok (l : List Int) (w : World) (hl : l.length = 26) (hb : Btw 0 1073741824 l) :
    Calls Try.prog 76 #[.agg (hv l)] w fun e w' => e = .returned (.int .i64 0) ∧ Below w.heap.size w w' := by
  have hz := zero_of_info info46
  obtain ⟨_, hi46⟩ := hz
  have t46 := Try.underlying63
  obtain ⟨c, hc⟩ : ∃ c, hv l = c := ⟨_, rfl⟩
  have hcs : c.size = 26 := by rw [← hc, hv_size, hl]
  have hget : ∀ k, k < 26 → c[k]? = some (.int .i64 (l.getD k 0)) := fun k hk => by rw [← hc]; exact hv_get l (by omega)
  have hbb : ∀ k, k < 26 → 0 ≤ l.getD k 0 ∧ l.getD k 0 ≤ 1073741824 := fun k hk => hb.get (by omega)
  rw [hc]
  have HG := Lib.hid hget
  have HB := Lib.hid hbb
  have hi' : Option.map (fun x => x.size) (Try.prog.info? 63) = some c.size := by rw [hcs]; exact hi46
  have HI := Lib.hid hi'
  have HT := Lib.hid t46
  clear hc hget hbb hb hl hi' hi46 t46
  go_enter Try.func76, Try.ntmps76
  have hld := heap_alloc_last w (.cells c 65)
  have HL := Lib.hid hld
  have hbl : Below w.heap.size w (w.alloc (.cells c 65)) := (Below.refl _ _).alloc (Nat.le_refl _) _
  clear hld
  go_wp2_with (refine wpList_load_row rfl _ _ rfl w.heap.size rfl _ c (0, 0) _ HL.out HT.out rfl HI.out ?_)
  go_loop [7] (fun i => ∃ k : Nat, k ≤ 26 ∧ i = .int .i64 k) (fun i => 26 - (intOf i).toNat)
  case atStart => exact ⟨0, Nat.zero_le _, rfl⟩
  case round =>
    obtain ⟨k, hk, rfl⟩ := hrel
    by_cases hlt : k < 26
    · have hx := HG.out k hlt
      have hbx := HB.out k hlt
      obtain ⟨x, hxv⟩ : ∃ x, l.getD k 0 = x := ⟨_, rfl⟩
      rw [hxv] at hx hbx
      have b0 : ¬ x < 0 := by omega
      have b1 : ¬ 1073741824 < x := by omega
      have hix := run_index26 (w.alloc (.cells c 65)) c k x hlt hx
      clear hxv
      go_wp2_with fail
      go_round
      case rel => exact ⟨k + 1, by omega, by go_num⟩
      case measure => simp [intOf]; omega
    · obtain rfl : k = 26 := by omega
      go_wp2_with fail
      go_ret
      exact ⟨rfl, hbl⟩

theorem setRow_below' {B : Nat} {w w1 : World} (h : Below B w w1) {g : Nat} (hg : B ≤ g) (cs : Array Value) : Below B w (w1.setRow g cs) :=
  h.trans ⟨rfl, rfl, rfl, by simp [World.setRow], fun k hk => by
    simp only [World.setRow, Array.getElem?_modify]
    rw [if_neg (by omega)]⟩
theorem setRow_at' {w : World} {g : Nat} {old cs : Array Value} {T : TypeId} {fz : Nat × Nat} (h : w.heap[g]? = some (.cells old T fz)) : (w.setRow g cs).heap[g]? = some (.cells cs T fz) := by
  simp [World.setRow, Array.getElem?_modify, h]
theorem setCell_at {w : World} {g k : Nat} {old : Array Value} {T : TypeId} {fz : Nat × Nat} {v : Value} (h : w.heap[g]? = some (.cells old T fz)) : (w.setCell ⟨g, k, none⟩ v).heap[g]? = some (.cells (old.setIfInBounds k v) T fz) := by
  simp [World.setCell, Array.getElem?_modify, h]
theorem hv_set (l : List Int) (k : Nat) (y : Int) : (hv l).setIfInBounds k (.int .i64 y) = hv (l.set k y) := by
  simp [hv, List.map_set]
theorem hv_one (l : List Int) : (hv l).all (·.oneCell') = true := by
  rw [Array.all_eq_true_iff_forall_mem]
  intro x hx
  obtain ⟨i, _, rfl⟩ := List.mem_map.1 (by simpa [hv] using hx)
  rfl
theorem results_cell_two {fn : Func} {p q : Tmp} {ty : TypeId} (h : fn.results = #[.cell p ty, .tmp q]) {tmps : Array Value} {P : Program} {w : World} {a : Addr} {v u : Value} (hp : tmps.getD p undef = .pointer (some a))
    (hl : (loadVar ty a).run P w = .ok v w) (hq : tmps.getD q undef = u) : (results fn tmps).run P w = .ok (.tuple #[v, u]) w := by
  simp only [results, h]
  rw [Array.getD_eq_getD_getElem?] at hp hq
  simp [Sem.run_bind, Result.andThen, hp, hq, asAddr, hl]

set_option maxHeartbeats 4000000 in
set_option maxRecDepth 100000 in
theorem hput_ok (l : List Int) (x y : Int) (K : Nat) (w : World) (hl : l.length = 26) (hb : Btw 0 1073741824 l) (hx : 0 ≤ x ∧ x ≤ 16777216) (hK : Go.Lib.bitLen x.toNat = K) (hK26 : K < 26) (hy : l.getD K 0 = y) (hy2 : y < 1073741824) :
    Calls Try.prog 37 #[.agg (hv l), .int .i64 x] w fun e w' => e = .returned (.tuple #[.agg (hv (l.set K (y + 1))), .int .i64 0]) ∧ Below w.heap.size w w' := by
  obtain ⟨_, hi46⟩ := zero_of_info info46
  obtain ⟨hz48, hi48⟩ := zero_of_info info48
  have t46 := Try.underlying63
  have t48 := Try.underlying65
  have HC := Lib.hid (fun w => hcheck_ok l w hl hb)
  have HV := Lib.hid (val_ok x hx.1 hx.2)
  have y0 : 0 ≤ y := by rw [← hy]; exact (hb.get (k := K) (by omega)).1
  have hget : (hv l)[K]? = some (.int .i64 y) := by rw [hv_get l (by omega), hy]
  have hset := hv_set l K (y + 1)
  have hsz : (hv l).size = 26 := by rw [hv_size, hl]
  have hsz2 : (hv (l.set K (y + 1))).size = 26 := by rw [hv_size, List.length_set, hl]
  have hone := hv_one (l.set K (y + 1))
  obtain ⟨c, hc⟩ : ∃ c, hv l = c := ⟨_, rfl⟩
  obtain ⟨d, hd⟩ : ∃ d, hv (l.set K (y + 1)) = d := ⟨_, rfl⟩
  rw [hc] at hget hset hsz HC
  rw [hd] at hset hsz2 hone
  rw [hc, hd]
  have HI := Lib.hid (show Option.map (fun x => x.size) (Try.prog.info? 65) = some c.size by rw [hsz]; exact hi48)
  have HI2 := Lib.hid (show Option.map (fun x => x.size) (Try.prog.info? 65) = some d.size by rw [hsz2]; exact hi48)
  have HT := Lib.hid t48
  have HOne := Lib.hid hone
  have HSz2 := Lib.hid hsz2
  have HSet := Lib.hid hset
  have HK := Lib.hid hK
  have qa := alloc_cells
  have qf := alloc_frozens
  have hwr : IntKind.u64.wrap x = x := by simp only [IntKind.wrap, IntKind.signed, IntKind.bits]; simp; omega
  have k0 : (0 : Int) ≤ K := by omega
  have k1 : (K : Int) < 26 := by omega
  have ny : ¬ y = 1073741824 := by omega
  have hbl : ∀ w, Calls Try.prog 78 #[.int .u64 x] w fun e w' => e = .returned (.int .i64 K) ∧ w = w' := fun w => by
    refine (Try.bits_Len x w hx.1 (by omega)).mono ?_
    rintro e w' ⟨rfl, rfl⟩
    rw [hK]
    exact ⟨rfl, rfl⟩
  have HBL := Lib.hid hbl
  have y1 : ¬ 1073741824 < y + 1 := by omega
  clear hi46 hi48 t48 hset hone hsz hsz2 hc hd hK hy hb hl hbl
  go_enter Try.func37, Try.ntmps37
  have hld : ((w.alloc (.cells c 65)).alloc (.cells (Array.replicate 26 (.int .i64 0)) 65)).heap[w.heap.size]? = some (.cells c 65 (0, 0)) := by
    rw [Below.heap_alloc _ _ _ (by simp)]; exact heap_alloc_last _ _
  have hld2 : ((w.alloc (.cells c 65)).alloc (.cells (Array.replicate 26 (.int .i64 0)) 65)).heap[w.heap.size + 1]? = some (.cells (Array.replicate 26 (.int .i64 0)) 65 (0, 0)) := by
    have := heap_alloc_last (w.alloc (.cells c 65)) (.cells (Array.replicate 26 (.int .i64 0)) 65)
    rwa [World.size_alloc] at this
  have hb2 : Below w.heap.size w ((w.alloc (.cells c 65)).alloc (.cells (Array.replicate 26 (.int .i64 0)) 65)) := ((Below.refl _ _).alloc (Nat.le_refl _) _).alloc (by simp) _
  have sz2 : ((w.alloc (.cells c 65)).alloc (.cells (Array.replicate 26 (.int .i64 0)) 65)).heap.size = w.heap.size + 2 := by simp
  have HL := Lib.hid hld
  have HM := Lib.hid hld2
  have HB2 := Lib.hid hb2
  have HSz := Lib.hid sz2
  clear hld hld2 hb2 sz2
  go_wp2_with (refine wpList_load_row rfl _ _ rfl w.heap.size rfl _ c (0, 0) _ HL.out HT.out rfl HI.out ?_)
  generalize ((w.alloc (.cells c 65)).alloc (.cells (Array.replicate 26 (.int .i64 0)) 65)) = w2 at HL HM HB2 HSz
  refine (HC.out w2).mono ?_
  rintro e w3 ⟨rfl, hb3⟩
  have z3 := hb3.size
  have sz2 := HSz.out
  have hl3 := (hb3.block w.heap.size (by omega)).trans HL.out
  have hm3 := (hb3.block (w.heap.size + 1) (by omega)).trans HM.out
  have hcell := cell_of_row _ _ K _ _ _ hl3
  rw [hget] at hcell
  have hfz : w3.frozen? ⟨w.heap.size, K, none⟩ = false := by simp [World.frozen?, hl3]
  have HL3 := Lib.hid hl3
  have HM3 := Lib.hid hm3
  clear hl3 hm3
  have hl4 : (w3.setCell ⟨w.heap.size, K, none⟩ (.int .i64 (y + 1))).heap[w.heap.size]? = some (.cells d 65 (0, 0)) := by
    rw [setCell_at HL3.out, HSet.out]
  have hm4 : (w3.setCell ⟨w.heap.size, K, none⟩ (.int .i64 (y + 1))).heap[w.heap.size + 1]? = some (.cells (Array.replicate 26 (.int .i64 0)) 65 (0, 0)) := by
    rw [Below.heap_setCell _ _ _ _ (by simp)]; exact HM3.out
  have HL4 := Lib.hid hl4
  have HM4 := Lib.hid hm4
  have hsz0 : (Array.replicate 26 (Value.int .i64 0)).size = d.size := by rw [HSz2.out]; simp
  have HZ0 := Lib.hid hsz0
  clear hl4 hm4 hsz0
  go_wp2_with fail
  refine (HV.out _).mono ?_
  rintro e w' ⟨rfl, rfl⟩
  go_wp2_with fail
  refine (HBL.out _).mono ?_
  rintro e w' ⟨rfl, rfl⟩
  go_wp2_with (first | (refine wpList_load_row rfl _ _ rfl w.heap.size rfl _ d (0, 0) _ HL4.out HT.out rfl HI2.out ?_) | (refine wpList_store_row rfl _ _ _ rfl (w.heap.size + 1) d rfl rfl _ _ HM4.out HI2.out HZ0.out HOne.out ?_))
  have hres := run_loadVar_row (P := Try.prog) _ _ _ 65 d (0, 0) _ (setRow_at' (cs := d) HM4.out) HT.out rfl HI2.out
  refine bodyPost_ret (v := .tuple #[.agg d, .int .i64 0]) (results_cell_two rfl rfl hres rfl) rfl ⟨rfl, ?_⟩
  exact setRow_below' ((HB2.out.trans (hb3.mono (by omega))).setCell (Nat.le_refl _) _) (by omega) _
end Go.Proofs.Ytlnagfmaiabhaaa
