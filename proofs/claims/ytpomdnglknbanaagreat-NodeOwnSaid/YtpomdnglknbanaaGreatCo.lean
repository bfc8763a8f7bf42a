/-
  The walk of crc.Of: a text's sum.
-/
import Derived.Test.YtpomdnglknbanaaGreatCt
set_option linter.unusedSimpArgs false
set_option linter.unusedVariables false
namespace Go.Proofs.YtpomdnglknbanaaGreat
open Go.RowKit

/-- The bytes of a text. -/
def byts (s : ByteArray) : List Nat := s.data.toList.map UInt8.toNat
theorem byts_len (s : ByteArray) : (byts s).length = s.size := by unfold byts; rw [List.length_map, Array.length_toList]; rfl
theorem byts_bytes (s : ByteArray) : Bytes (byts s) := by
  intro x hx
  obtain ⟨b, _, rfl⟩ := List.mem_map.1 hx
  exact UInt8.toNat_lt b
theorem byts_get (s : ByteArray) {k : Nat} (h : k < s.size) : (byts s).getD k 0 = (s[k]'h).toNat := by
  have h2 : k < s.data.toList.length := by rw [Array.length_toList]; exact h
  unfold byts
  rw [List.getD_eq_getElem?_getD, List.getElem?_map, List.getElem?_eq_getElem h2]
  rfl

set_option maxHeartbeats 4000000 in
set_option maxRecDepth 1000000 in
theorem crc_ok (s : ByteArray) (n : Nat) (w : World) (hs : s.size ≤ 20000) (hn : crcOf (byts s) = n) :
    Calls Tryz.prog 47 #[.string s] w fun e w' => e = .returned (.tuple #[.int .i64 n, .int .i64 0]) ∧ Below w.heap.size w w' := by
  obtain ⟨hv88, hi88⟩ := zero_of_info info88
  have t88 := Tryz.underlying129
  have HN := Lib.hid hn
  clear hn
  have hd : decide (20000 < (s.size : Int)) = false := by simp; omega
  have hsz := tabC_size 256
  have hi256 : Option.map (fun x => x.size) (Tryz.prog.info? 129) = some (tabC 256).size := by rw [hsz]; exact hi88
  have HI := Lib.hid hi256
  clear hi256 hi88
  go_enter Tryz.func47, Tryz.ntmps47
  go_wp2_with fail
  refine (table_ok _).mono ?_
  rintro e w1 ⟨rfl, hb1⟩
  have hsc := run_storeCells_new (P := Tryz.prog) w1 129 (Array.replicate 256 (.int .u32 0)) (tabC 256) HI.out (by rw [hsz]; simp) (tabC_one _)
  have HSC := Lib.hid hsc
  clear hsc
  go_wp2_with fail
  rw [HSC.out]
  simp only [Result.andThen]
  rw [Oper.upon_skip]
  obtain ⟨w2, hw2⟩ : ∃ w2, w2 = w1.alloc (.cells (tabC 256) 129) := ⟨_, rfl⟩
  have bel2 : Below w.heap.size w w2 := by rw [hw2]; exact hb1.alloc hb1.size _
  have hcell : ∀ d, d < 256 → w2.cell? ⟨w1.heap.size, d, none⟩ = some (.int .u32 (stn 8 d : Int)) := fun d hd => by
    rw [hw2]; exact ctabC_at (heap_alloc_last _ _) hd
  rw [← hw2]
  have HC := Lib.hid hcell
  have HB := Lib.hid bel2
  clear hw2 bel2 hcell hb1 HSC hv88 t88
  go_wp2_with fail
  go_loop [5, 13] (fun c i => ∃ (k C : Nat), k ≤ s.size ∧ i = .int .i64 k ∧ c = .int .u32 C ∧ C < 4294967296 ∧ crcRun 4294967295 ((byts s).take k) = C) (fun _ i => s.size - (intOf i).toNat)
  case atStart => exact ⟨0, 4294967295, Nat.zero_le _, rfl, rfl, by omega, rfl⟩
  case round =>
    obtain ⟨k, C, hk, rfl, rfl, hC, hrun⟩ := hrel
    by_cases hlt : k < s.size
    · have hst := crcRun_snoc (l := byts s) (k := k) (by rw [byts_len]; exact hlt) 4294967295
      rw [hrun, byts_get s hlt] at hst
      obtain ⟨x, hx⟩ : ∃ x : UInt8, s[k]'hlt = x := ⟨_, rfl⟩
      rw [hx] at hst
      have xb := UInt8.toNat_lt x
      obtain ⟨X, hX⟩ : ∃ X, x.toNat = X := ⟨_, rfl⟩
      rw [hX] at hst xb
      obtain ⟨d, hd8⟩ : ∃ d, C % 256 ^^^ X = d := ⟨_, rfl⟩
      have db : d < 256 := by rw [← hd8]; exact Nat.xor_lt_two_pow (n := 8) (by omega) (by omega)
      have f1 : IntKind.u8.wrap (C : Int) = ((C % 256 : Nat) : Int) := by simp [IntKind.wrap, IntKind.bits, IntKind.signed]
      have f2 : bits .xor .u8 ((C % 256 : Nat) : Int) (X : Int) = (d : Int) := by rw [u8_xor_nat _ _ (by omega) xb, hd8]
      have f2' : bits .xor .u8 ((C : Int) % 256) (X : Int) = (d : Int) := f2
      have f3 := HC.out d db
      have eb : stn 8 d < 4294967296 := stn_lt 8 (by omega)
      obtain ⟨e, he⟩ : ∃ e, stn 8 d = e := ⟨_, rfl⟩
      rw [he] at f3 eb
      obtain ⟨C', hC'⟩ : ∃ C', C / 256 ^^^ e = C' := ⟨_, rfl⟩
      have f4 : bits .xor .u32 ((C : Int) / 256) (e : Int) = (C' : Int) := by
        rw [← hC']; exact u32_xor_nat (C / 256) e (by omega) eb
      have cb : C' < 4294967296 := by rw [← hC']; exact xor_lt32 (by omega) eb
      have hst2 : crcRun 4294967295 ((byts s).take (k + 1)) = C' := by rw [hst]; unfold crcStep; rw [hd8, he, hC']
      have HS := Lib.hid hst2
      clear hst hst2 hC' he hd8 hrun
      go_wp2_with fail
      go_round
      case rel => exact ⟨k + 1, C', by omega, by go_num, rfl, cb, HS.out⟩
      case measure => simp [intOf]; omega
    · obtain rfl : s.size = k := by omega
      rw [List.take_of_length_le (by rw [byts_len]; exact Nat.le_refl _)] at hrun
      have hn := HN.out
      unfold crcOf at hn
      rw [hrun] at hn
      have f5 : bits .xor .u32 IntKind.u32.max (C : Int) = (n : Int) := by
        rw [← hn]; exact u32_xor_nat 4294967295 C (by omega) hC
      have nb : n < 4294967296 := by rw [← hn]; exact xor_lt32 (by omega) hC
      have f6 : wrap64 (n : Int) = n := IntWalk.wrap64_in _ ⟨by omega, by omega⟩
      clear hrun hn
      go_wp2_with fail
      go_ret2
      exact ⟨rfl, HB.out⟩
theorem crc_large (s : ByteArray) (w : World) (hs : 20000 < s.size) (hm : s.size ≤ 9223372036854775807) :
    Calls Tryz.prog 47 #[.string s] w fun e w' => e = .returned (.tuple #[.int .i64 0, .int .i64 2]) ∧ w = w' := by
  have hd : decide (20000 < (s.size : Int)) = true := by simp; omega
  have hs' : 20000 < (s.size : Int) := by omega
  go_enter Tryz.func47, Tryz.ntmps47
  go_wp2_with fail
  go_ret2
  exact ⟨rfl, rfl⟩
end Go.Proofs.YtpomdnglknbanaaGreat
