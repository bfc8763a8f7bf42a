/-
  The walks of package beat: names, checks, four bytes.
-/
import Derived.Test.YtpomdnglknbanaaGreatBp
import Derived.Test.YtpomdnglknbanaaGreatQT
import Derived.Test.YtpomdnglknbanaaGreatBu
set_option linter.unusedSimpArgs false
set_option linter.unusedVariables false
namespace Go.Proofs.YtpomdnglknbanaaGreat
open Go.RowKit

theorem byte_at {s : ByteArray} {k : Nat} (h : k < s.size) : (s[k]'h).toNat = (byts s).getD k 0 := (byts_get s h).symm
theorem str_len (s : ByteArray) : s.toList.length = s.size := by rw [ByteArray.toList_eq, Array.length_toList]; rfl
theorem not_nil {s : ByteArray} (h : 1 ≤ s.size) : ¬ s.toList = [] := fun e => by
  have := str_len s
  rw [e] at this
  simp at this
  omega
theorem not_empty {s : ByteArray} (h : 1 ≤ s.size) : s.toList.isEmpty = false := by
  have := not_nil h
  simpa [List.isEmpty_iff] using this

set_option maxHeartbeats 4000000 in
set_option maxRecDepth 100000 in
theorem id_ok (s : ByteArray) (w : World) (h : IdOK (byts s)) :
    Calls Tryz.prog 63 #[.string s] w fun e w' => e = .returned (.bool true) ∧ w = w' := by
  obtain ⟨h1, h2, h3⟩ := h
  rw [byts_len] at h1 h2
  have hne := not_nil h1
  have hne2 := not_empty h1
  have hg : ¬ (8 : Int) < s.size := by omega
  have H3 := Lib.hid h3
  clear h3
  go_enter Tryz.func63, Tryz.ntmps63
  go_wp2_with fail
  go_loop [13] (fun i => ∃ k : Nat, k ≤ s.size ∧ i = .int .i64 k) (fun i => s.size - (intOf i).toNat)
  case atStart => exact ⟨0, Nat.zero_le _, rfl⟩
  case round =>
    obtain ⟨k, hk, rfl⟩ := hrel
    by_cases hlt : k < s.size
    · obtain ⟨x, hx⟩ : ∃ x : UInt8, s[k]'hlt = x := ⟨_, rfl⟩
      have hm : x.toNat ∈ byts s := by
        rw [← hx, byte_at hlt, List.getD_eq_getElem?_getD, List.getElem?_eq_getElem (by rw [byts_len]; exact hlt)]
        exact List.getElem_mem _
      have hb := H3.out _ hm
      obtain ⟨X, hX⟩ : ∃ X, x.toNat = X := ⟨_, rfl⟩
      rw [hX] at hb
      have hb1 : ¬ (X : Int) < 97 := by omega
      have hb2 : ¬ (122 : Int) < X := by omega
      clear hm
      go_wp2_with fail
      go_round
      case rel => exact ⟨k + 1, by omega, by go_num⟩
      case measure => simp [intOf]; omega
    · obtain rfl : s.size = k := by omega
      go_wp2_with fail
      go_ret
      exact ⟨rfl, rfl⟩
set_option maxHeartbeats 4000000 in
set_option maxRecDepth 100000 in
theorem id_bad (s : ByteArray) (w : World) (hm : s.size ≤ 9223372036854775807) (h : ¬ IdOK (byts s)) :
    Calls Tryz.prog 63 #[.string s] w fun e w' => e = .returned (.bool false) ∧ w = w' := by
  by_cases h1 : 1 ≤ s.size
  · have hne := not_nil h1
    have hne2 := not_empty h1
    by_cases h2 : s.size ≤ 8
    · have hg : ¬ (8 : Int) < s.size := by omega
      have hex : ∃ k0, k0 < s.size ∧ ¬ (97 ≤ (byts s).getD k0 0 ∧ (byts s).getD k0 0 ≤ 122) ∧ ∀ j, j < k0 → 97 ≤ (byts s).getD j 0 ∧ (byts s).getD j 0 ≤ 122 := by
        have : ∀ n, n ≤ s.size → (∀ j, j < n → 97 ≤ (byts s).getD j 0 ∧ (byts s).getD j 0 ≤ 122) ∨ ∃ k0, k0 < s.size ∧ ¬ (97 ≤ (byts s).getD k0 0 ∧ (byts s).getD k0 0 ≤ 122) ∧ ∀ j, j < k0 → 97 ≤ (byts s).getD j 0 ∧ (byts s).getD j 0 ≤ 122 := by
          intro n
          induction n with
          | zero => intro _; exact .inl (fun j hj => absurd hj (by omega))
          | succ n ih =>
            intro hn
            rcases ih (by omega) with a | a
            · by_cases c : 97 ≤ (byts s).getD n 0 ∧ (byts s).getD n 0 ≤ 122
              · left
                intro j hj
                rcases Nat.lt_or_ge j n with g | g
                · exact a j g
                · obtain rfl : j = n := by omega
                  exact c
              · exact .inr ⟨n, by omega, c, a⟩
            · exact .inr a
        rcases this s.size (Nat.le_refl _) with a | a
        · exfalso
          refine h ⟨by rw [byts_len]; exact h1, by rw [byts_len]; exact h2, fun x hx => ?_⟩
          obtain ⟨j, hj, rfl⟩ := List.getElem_of_mem hx
          have := a j (by rw [byts_len] at hj; exact hj)
          simpa [List.getD, hj] using this
        · exact a
      obtain ⟨k0, k1, k2, k3⟩ := hex
      have K2 := Lib.hid k2
      have K3 := Lib.hid k3
      clear h k2 k3
      go_enter Tryz.func63, Tryz.ntmps63
      go_wp2_with fail
      go_loop [13] (fun i => ∃ k : Nat, k ≤ k0 ∧ i = .int .i64 k) (fun i => s.size - (intOf i).toNat)
      case atStart => exact ⟨0, Nat.zero_le _, rfl⟩
      case round =>
        obtain ⟨k, hk, rfl⟩ := hrel
        have hlt : k < s.size := by omega
        obtain ⟨x, hx⟩ : ∃ x : UInt8, s[k]'hlt = x := ⟨_, rfl⟩
        obtain ⟨X, hX⟩ : ∃ X, x.toNat = X := ⟨_, rfl⟩
        have he : (byts s).getD k 0 = X := by rw [← byte_at hlt, hx, hX]
        by_cases hk0 : k < k0
        · have hb := K3.out k hk0
          rw [he] at hb
          have hb1 : ¬ (X : Int) < 97 := by omega
          have hb2 : ¬ (122 : Int) < X := by omega
          clear he
          go_wp2_with fail
          go_round
          case rel => exact ⟨k + 1, by omega, by go_num⟩
          case measure => simp [intOf]; omega
        · obtain rfl : k0 = k := by omega
          have hb := K2.out
          rw [he] at hb
          clear he
          by_cases c : X < 97
          · have hb1 : (X : Int) < 97 := by omega
            go_wp2_with fail
            go_ret
            exact ⟨rfl, rfl⟩
          · have hb1 : ¬ (X : Int) < 97 := by omega
            have hb2 : (122 : Int) < X := by omega
            go_wp2_with fail
            go_ret
            exact ⟨rfl, rfl⟩
    · have hg : (8 : Int) < s.size := by omega
      clear h
      go_enter Tryz.func63, Tryz.ntmps63
      go_wp2_with fail
      go_ret
      exact ⟨rfl, rfl⟩
  · have e0 : s.toList = [] := List.eq_nil_of_length_eq_zero (by rw [str_len]; omega)
    have e1 : s.toList.isEmpty = true := by rw [e0]; rfl
    clear h
    go_enter Tryz.func63, Tryz.ntmps63
    go_wp2_with fail
    go_ret
    exact ⟨rfl, rfl⟩

set_option maxHeartbeats 4000000 in
set_option maxRecDepth 100000 in
theorem bcheck_ok (s : ByteArray) (i q : Int) (w : World) (h : IdOK (byts s)) (hi : 0 ≤ i ∧ i < 2147483648) (hq : 1 ≤ q ∧ q < 2147483648) :
    Calls Tryz.prog 45 #[.agg #[.string s, .int .i64 i, .int .i64 q]] w fun e w' => e = .returned (.int .i64 0) ∧ Below w.heap.size w w' := by
  have qa := alloc_cells
  have qf := alloc_frozens
  have HI := Lib.hid (fun w' => id_ok s w' h)
  clear h
  obtain ⟨i1, i2⟩ := hi
  obtain ⟨q1, q2⟩ := hq
  go_enter Tryz.func45, Tryz.ntmps45
  go_wp2_with fail
  refine (HI.out _).mono ?_
  rintro e w' ⟨rfl, rfl⟩
  go_wp2_with fail
  go_ret
  exact ⟨rfl, (by repeat (first | (with_reducible exact Below.refl _ _) | ((with_reducible refine Below.alloc ?_ ?_ _); rotate_left; (next => ((try dsimp only); (try simp only [World.size_alloc, World.size_setCell, World.size_drew]); omega))) | ((with_reducible refine Below.setCell ?_ ?_ _); rotate_left; (next => ((try dsimp only); (try simp only [World.size_alloc, World.size_setCell, World.size_drew]); omega))) | (with_reducible refine Below.drew ?_) | (refine Below.trans ?_ (by assumption))))⟩
set_option maxHeartbeats 4000000 in
set_option maxRecDepth 100000 in
theorem bcheck_form (s : ByteArray) (i q : Int) (w : World) (hm : s.size ≤ 9223372036854775807) (h : ¬ IdOK (byts s)) :
    Calls Tryz.prog 45 #[.agg #[.string s, .int .i64 i, .int .i64 q]] w fun e w' => e = .returned (.int .i64 3) ∧ Below w.heap.size w w' := by
  have qa := alloc_cells
  have qf := alloc_frozens
  have HI := Lib.hid (fun w' => id_bad s w' hm h)
  clear h
  go_enter Tryz.func45, Tryz.ntmps45
  go_wp2_with fail
  refine (HI.out _).mono ?_
  rintro e w' ⟨rfl, rfl⟩
  go_wp2_with fail
  go_ret
  exact ⟨rfl, (by repeat (first | (with_reducible exact Below.refl _ _) | ((with_reducible refine Below.alloc ?_ ?_ _); rotate_left; (next => ((try dsimp only); (try simp only [World.size_alloc, World.size_setCell, World.size_drew]); omega))) | ((with_reducible refine Below.setCell ?_ ?_ _); rotate_left; (next => ((try dsimp only); (try simp only [World.size_alloc, World.size_setCell, World.size_drew]); omega))) | (with_reducible refine Below.drew ?_) | (refine Below.trans ?_ (by assumption))))⟩
set_option maxHeartbeats 4000000 in
set_option maxRecDepth 100000 in
theorem bcheck_arg (s : ByteArray) (i q : Int) (w : World) (h : IdOK (byts s)) (hb : ¬ ((0 ≤ i ∧ i < 2147483648) ∧ 1 ≤ q ∧ q < 2147483648)) :
    Calls Tryz.prog 45 #[.agg #[.string s, .int .i64 i, .int .i64 q]] w fun e w' => e = .returned (.int .i64 1) ∧ Below w.heap.size w w' := by
  have qa := alloc_cells
  have qf := alloc_frozens
  have HI := Lib.hid (fun w' => id_ok s w' h)
  clear h
  have hc : i < 0 ∨ (0 ≤ i ∧ 2147483648 ≤ i) ∨ (0 ≤ i ∧ ¬ 2147483648 ≤ i ∧ q < 1) ∨ (0 ≤ i ∧ ¬ 2147483648 ≤ i ∧ 1 ≤ q ∧ 2147483648 ≤ q) := by omega
  clear hb
  rcases hc with h1 | ⟨h1, h2⟩ | ⟨h1, h2, h3⟩ | ⟨h1, h2, h3, h4⟩
  all_goals
    go_enter Tryz.func45, Tryz.ntmps45
    go_wp2_with fail
    refine (HI.out _).mono ?_
    rintro e w' ⟨rfl, rfl⟩
    go_wp2_with fail
    go_ret
    exact ⟨rfl, (by repeat (first | (with_reducible exact Below.refl _ _) | ((with_reducible refine Below.alloc ?_ ?_ _); rotate_left; (next => ((try dsimp only); (try simp only [World.size_alloc, World.size_setCell, World.size_drew]); omega))) | ((with_reducible refine Below.setCell ?_ ?_ _); rotate_left; (next => ((try dsimp only); (try simp only [World.size_alloc, World.size_setCell, World.size_drew]); omega))) | (with_reducible refine Below.drew ?_) | (refine Below.trans ?_ (by assumption))))⟩
theorem four_cells (w : World) (n : Nat) (hn : n < 4294967296) : ∀ j, j < 4 → (w.alloc (.cells #[.int .u8 ((n : Int) / 16777216), .int .u8 ((n : Int) / 65536 % 256), .int .u8 ((n : Int) / 256 % 256), .int .u8 ((n : Int) % 256)] 5)).cell? ⟨w.heap.size, j, none⟩ = some (bv ((fourL n).getD j 0)) := by
  intro j hj
  rw [World.cell?_alloc_new]
  match j, hj with
  | 0, _ => simp [fourL, bv]; omega
  | 1, _ => simp [fourL, bv]
  | 2, _ => simp [fourL, bv]
  | 3, _ => simp [fourL, bv]
set_option maxHeartbeats 4000000 in
set_option maxRecDepth 100000 in
theorem four_ok (n : Nat) (w : World) (hn : n < 4294967296) :
    Calls Tryz.prog 48 #[.int .i64 n] w fun e w' => e = .returned (.string (mkB (fourL n))) ∧ Below w.heap.size w w' := by
  have hn' : (n : Int) < 4294967296 := by omega
  have qa := alloc_cells
  have qf := alloc_frozens
  go_enter Tryz.func48, Tryz.ntmps48
  go_wp2_with fail
  rw [run_text (w.alloc (.cells #[.int .u8 ((n : Int) / 16777216), .int .u8 ((n : Int) / 65536 % 256), .int .u8 ((n : Int) / 256 % 256), .int .u8 ((n : Int) % 256)] 5)) (b := w.heap.size) (n := 4) (c := 4) (l := fourL n) (fourL_bytes n) rfl (four_cells w n hn)]
  go_wp2_with fail
  go_ret
  exact ⟨rfl, (by repeat (first | (with_reducible exact Below.refl _ _) | ((with_reducible refine Below.alloc ?_ ?_ _); rotate_left; (next => ((try dsimp only); (try simp only [World.size_alloc, World.size_setCell, World.size_drew]); omega))) | ((with_reducible refine Below.setCell ?_ ?_ _); rotate_left; (next => ((try dsimp only); (try simp only [World.size_alloc, World.size_setCell, World.size_drew]); omega))) | (with_reducible refine Below.drew ?_) | (refine Below.trans ?_ (by assumption))))⟩
theorem or_parts {a b i : Nat} (h : b < 2 ^ i) : a * 2 ^ i ||| b = a * 2 ^ i + b := by
  rw [Nat.mul_comm a]; exact (Nat.two_pow_add_eq_or_of_lt h a).symm
theorem or_four (A B C D : Nat) (ha : A < 2 ^ 8) (hb : B < 2 ^ 8) (hc : C < 2 ^ 8) (hd : D < 2 ^ 8) :
    bits .or .i64 (bits .or .i64 (bits .or .i64 (IntKind.i64.wrap (IntKind.i64.wrap (A : Int) * 16777216)) (IntKind.i64.wrap (IntKind.i64.wrap (B : Int) * 65536))) (IntKind.i64.wrap (IntKind.i64.wrap (C : Int) * 256))) (IntKind.i64.wrap (D : Int)) = ((A * 16777216 + B * 65536 + C * 256 + D : Nat) : Int) := by
  have w0 : ∀ x : Nat, x < 4294967296 → IntKind.i64.wrap (x : Int) = x := fun x hx => IntWalk.i64_in _ (by omega)
  rw [w0 A (by omega), w0 B (by omega), w0 C (by omega), w0 D (by omega)]
  have e1 : IntKind.i64.wrap ((A : Int) * 16777216) = ((A * 16777216 : Nat) : Int) := w0 (A * 16777216) (by omega)
  have e2 : IntKind.i64.wrap ((B : Int) * 65536) = ((B * 65536 : Nat) : Int) := w0 (B * 65536) (by omega)
  have e3 : IntKind.i64.wrap ((C : Int) * 256) = ((C * 256 : Nat) : Int) := w0 (C * 256) (by omega)
  rw [e1, e2, e3]
  have o1 : A * 16777216 ||| B * 65536 = A * 16777216 + B * 65536 := or_parts (i := 24) (by omega)
  rw [i64_or_nat _ _ (by omega) (by omega), o1]
  have o2 : A * 16777216 + B * 65536 ||| C * 256 = A * 16777216 + B * 65536 + C * 256 := by
    have := or_parts (a := A * 256 + B) (b := C * 256) (i := 16) (by omega)
    rwa [show (A * 256 + B) * 2 ^ 16 = A * 16777216 + B * 65536 by omega] at this
  rw [i64_or_nat _ _ (by omega) (by omega), o2]
  have o3 : A * 16777216 + B * 65536 + C * 256 ||| D = A * 16777216 + B * 65536 + C * 256 + D := by
    have := or_parts (a := A * 65536 + B * 256 + C) (b := D) (i := 8) (by omega)
    rwa [show (A * 65536 + B * 256 + C) * 2 ^ 8 = A * 16777216 + B * 65536 + C * 256 by omega] at this
  rw [i64_or_nat _ _ (by omega) (by omega), o3]
set_option maxHeartbeats 4000000 in
set_option maxRecDepth 100000 in
theorem number_ok (s : ByteArray) (w : World) (hs : 4 ≤ s.size) (hm : s.size ≤ 9223372036854775807) :
    Calls Tryz.prog 65 #[.string s] w fun e w' => e = .returned (.int .i64 (numL (byts s))) ∧ Below w.heap.size w w' := by
  have h0 : 0 < s.size := by omega
  have h1 : 1 < s.size := by omega
  have h2 : 2 < s.size := by omega
  have h3 : 3 < s.size := by omega
  obtain ⟨a, ha⟩ : ∃ x : UInt8, s[0]'h0 = x := ⟨_, rfl⟩
  obtain ⟨b, hb⟩ : ∃ x : UInt8, s[1]'h1 = x := ⟨_, rfl⟩
  obtain ⟨c, hc⟩ : ∃ x : UInt8, s[2]'h2 = x := ⟨_, rfl⟩
  obtain ⟨d, hd⟩ : ∃ x : UInt8, s[3]'h3 = x := ⟨_, rfl⟩
  have ab := UInt8.toNat_lt a
  have bb := UInt8.toNat_lt b
  have cb := UInt8.toNat_lt c
  have db := UInt8.toNat_lt d
  obtain ⟨A, hA⟩ : ∃ X, a.toNat = X := ⟨_, rfl⟩
  obtain ⟨B, hB⟩ : ∃ X, b.toNat = X := ⟨_, rfl⟩
  obtain ⟨C, hC⟩ : ∃ X, c.toNat = X := ⟨_, rfl⟩
  obtain ⟨D, hD⟩ : ∃ X, d.toNat = X := ⟨_, rfl⟩
  rw [hA] at ab
  rw [hB] at bb
  rw [hC] at cb
  rw [hD] at db
  have e : numL (byts s) = A * 16777216 + B * 65536 + C * 256 + D := by
    unfold numL
    rw [byts_get s h0, byts_get s h1, byts_get s h2, byts_get s h3, ha, hb, hc, hd, hA, hB, hC, hD]
  have hof := or_four A B C D ab bb cb db
  rw [e]
  have k1 : (0 : Int) < s.size := by omega
  have k2 : (1 : Int) < s.size := by omega
  have k3 : (2 : Int) < s.size := by omega
  have k4 : (3 : Int) < s.size := by omega
  have HO := Lib.hid hof
  clear e hof
  go_enter Tryz.func65, Tryz.ntmps65
  go_wp2_with fail
  refine wp_region_quiet_all (Ext _) (by kernel_rfl) (by kernel_rfl) (Ext.drawn _) ?_
  repeat (first | go_big_quiet_skip | go_big_quiet_step (fail) | (refine BigFrame.wpQuiet_want rfl (fun K hK => ?_); apply Exists.intro; refine ⟨fun w2 h2 => ?_, ?_⟩; (next => (have g1 := Below.cells h2.below; have g2 := Below.frozens h2.below; (try simp only [World.size_alloc, World.size_setCell] at g1 g2); first | (go_simp; fail) | (simp [go_sem, ↓IntWalk.iteOmega, *]; done) | (simp [go_sem, ↓IntWalk.iteOmega, *]; rfl)))); (go_simp; refine hK _ ?_; clear hK K))
  refine wpQuiet_nil ?_
  intro w1 h1
  have hb1 := h1.below
  clear h1
  have z1 := hb1.size
  have c1 := Below.cells hb1
  have f1 := Below.frozens hb1
  try simp only [World.size_alloc, World.size_setCell, World.size_drew] at z1 c1 f1
  go_wp2_with fail
  rw [HO.out]
  go_ret
  exact ⟨rfl, hb1⟩
end Go.Proofs.YtpomdnglknbanaaGreat
