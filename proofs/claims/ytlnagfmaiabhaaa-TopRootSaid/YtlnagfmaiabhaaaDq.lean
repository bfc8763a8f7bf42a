/-
  dec.Parse.
-/
import Derived.Test.YtlnagfmaiabhaaaDt
import Derived.Test.YtlnagfmaiabhaaaBe
import Derived.Test.YtlnagfmaiabhaaaQV
import Derived.Test.YtlnagfmaiabhaaaW3
set_option linter.unusedSimpArgs false
set_option linter.unusedVariables false
namespace Go.Proofs.Ytlnagfmaiabhaaa
open Go Go.RowKit
theorem pv_le_take {l : List Nat} (hd : Dig l) (k : Nat) : pv (l.take k) ≤ pv l := by
  have e := pvFrom (l.drop k) (pv (l.take k))
  have h : pv l = (l.drop k).foldl (fun a b => a * 10 + (b - 48)) (pv (l.take k)) := by
    conv => lhs; rw [← List.take_append_drop k l]
    simp only [pv, List.foldl_append]
  rw [h, e]
  have : 1 ≤ 10 ^ (l.drop k).length := Nat.one_le_pow _ _ (by omega)
  have := Nat.mul_le_mul_left (pv (l.take k)) this
  omega
theorem pv_take_succ {l : List Nat} {k : Nat} (h : k < l.length) : pv (l.take (k + 1)) = pv (l.take k) * 10 + (l.getD k 0 - 48) := by
  have : l.take (k + 1) = l.take k ++ [l.getD k 0] := by rw [List.take_succ_eq_append_getElem h]; simp [List.getD, h]
  rw [this, pv_snoc]

set_option maxHeartbeats 4000000 in
set_option maxRecDepth 100000 in
theorem parse_empty (s : ByteArray) (w : World) (h : s.size = 0) :
    Calls Try.prog 28 #[.string s] w fun e w' => e = .returned (.tuple #[.agg #[.int .u64 0, .int .u64 0], .int .i64 3]) ∧ Below w.heap.size w w' := by
  have hne : s.toList = [] := List.eq_nil_of_length_eq_zero (by rw [str_len]; exact h)
  go_enter Try.func28, Try.ntmps28
  go_wp2_with fail
  refine bodyPost_ret (v := .tuple #[.agg #[.int .u64 0, .int .u64 0], .int .i64 3]) (by simp [results, Try.results28, go_sem, ↓IntWalk.iteOmega, *]) rfl ?_
  exact ⟨rfl, (by repeat (first | (with_reducible exact Below.refl _ _) | ((with_reducible refine Below.alloc ?_ ?_ _); rotate_left; (next => ((try dsimp only); (try simp only [World.size_alloc, World.size_setCell, World.size_drew]); omega))) | ((with_reducible refine Below.setCell ?_ ?_ _); rotate_left; (next => ((try dsimp only); (try simp only [World.size_alloc, World.size_setCell, World.size_drew]); omega))) | (with_reducible refine Below.drew ?_) | (refine Below.trans ?_ (by assumption))))⟩

set_option maxHeartbeats 4000000 in
set_option maxRecDepth 100000 in
theorem parse_lead (s : ByteArray) (w : World) (h : 1 < s.size) (h0 : (byts s).getD 0 0 = 48) :
    Calls Try.prog 28 #[.string s] w fun e w' => e = .returned (.tuple #[.agg #[.int .u64 0, .int .u64 0], .int .i64 3]) ∧ Below w.heap.size w w' := by
  have hne := not_nil (s := s) (by omega)
  have hne2 := not_empty (s := s) (by omega)
  have hg : (1 : Int) < s.size := by omega
  obtain ⟨x, hx⟩ : ∃ x : UInt8, s[0]'(by omega) = x := ⟨_, rfl⟩
  have hX : x.toNat = 48 := by rw [← hx, byte_at (by omega), h0]
  clear h0
  go_enter Try.func28, Try.ntmps28
  go_wp2_with fail
  refine bodyPost_ret (v := .tuple #[.agg #[.int .u64 0, .int .u64 0], .int .i64 3]) (by simp [results, Try.results28, go_sem, ↓IntWalk.iteOmega, *]) rfl ?_
  exact ⟨rfl, (by repeat (first | (with_reducible exact Below.refl _ _) | ((with_reducible refine Below.alloc ?_ ?_ _); rotate_left; (next => ((try dsimp only); (try simp only [World.size_alloc, World.size_setCell, World.size_drew]); omega))) | ((with_reducible refine Below.setCell ?_ ?_ _); rotate_left; (next => ((try dsimp only); (try simp only [World.size_alloc, World.size_setCell, World.size_drew]); omega))) | (with_reducible refine Below.drew ?_) | (refine Below.trans ?_ (by assumption))))⟩

theorem first_bad {l : List Nat} (h : ¬ Dig l) : ∃ k0, k0 < l.length ∧ ¬ (48 ≤ l.getD k0 0 ∧ l.getD k0 0 ≤ 57) ∧ ∀ j, j < k0 → 48 ≤ l.getD j 0 ∧ l.getD j 0 ≤ 57 := by
  have : ∀ n, n ≤ l.length → (∀ j, j < n → 48 ≤ l.getD j 0 ∧ l.getD j 0 ≤ 57) ∨ ∃ k0, k0 < l.length ∧ ¬ (48 ≤ l.getD k0 0 ∧ l.getD k0 0 ≤ 57) ∧ ∀ j, j < k0 → 48 ≤ l.getD j 0 ∧ l.getD j 0 ≤ 57 := by
    intro n
    induction n with
    | zero => intro _; exact .inl (fun j hj => absurd hj (by omega))
    | succ n ih =>
      intro hn
      rcases ih (by omega) with a | a
      · by_cases c : 48 ≤ l.getD n 0 ∧ l.getD n 0 ≤ 57
        · left
          intro j hj
          rcases Nat.lt_or_ge j n with g | g
          · exact a j g
          · obtain rfl : j = n := by omega
            exact c
        · exact .inr ⟨n, by omega, c, a⟩
      · exact .inr a
  rcases this l.length (Nat.le_refl _) with a | a
  · exfalso
    refine h fun x hx => ?_
    obtain ⟨j, hj, rfl⟩ := List.getElem_of_mem hx
    have := a j hj
    simpa [List.getD, hj] using this
  · exact a

set_option maxHeartbeats 4000000 in
set_option maxRecDepth 100000 in
theorem parse_bad (s : ByteArray) (w : World) (hm : s.size ≤ 9223372036854775807) (h1 : 1 ≤ s.size) (hl : s.size = 1 ∨ (1 < s.size ∧ (byts s).getD 0 0 ≠ 48)) (h : ¬ Dig (byts s)) :
    Calls Try.prog 28 #[.string s] w fun e w' => e = .returned (.tuple #[.agg #[.int .u64 0, .int .u64 0], .int .i64 3]) ∧ Below w.heap.size w w' := by
  have hne := not_nil h1
  have hne2 := not_empty h1
  obtain ⟨k0, k1, k2, k3⟩ := first_bad h
  rw [byts_len] at k1
  have K2 := Lib.hid k2
  have K3 := Lib.hid k3
  obtain ⟨x0, hx0⟩ : ∃ x : UInt8, s[0]'(by omega) = x := ⟨_, rfl⟩
  obtain ⟨X0, hX0⟩ : ∃ X, x0.toNat = X := ⟨_, rfl⟩
  have e0 : (byts s).getD 0 0 = X0 := by rw [← byte_at (by omega), hx0, hX0]
  have hcs : (¬ (1 : Int) < s.size) ∨ ((1 : Int) < s.size ∧ ¬ (X0 : Int) = 48) := by
    rcases hl with h | ⟨h, h'⟩
    · exact .inl (by omega)
    · exact .inr ⟨by omega, by rw [e0] at h'; omega⟩
  clear h k2 k3 hl e0
  rcases hcs with g1 | ⟨g1, g2⟩
  all_goals
    go_enter Try.func28, Try.ntmps28
    go_wp2_with fail
    go_loop [24] (fun i => ∃ k : Nat, k ≤ k0 ∧ i = .int .i64 k) (fun i => s.size - (intOf i).toNat)
    case atStart => exact ⟨0, Nat.zero_le _, rfl⟩
    case round =>
      obtain ⟨k, hk, rfl⟩ := hrel
      have hlt : k < s.size := by omega
      obtain ⟨x, hx⟩ : ∃ x : UInt8, s[k]'hlt = x := ⟨_, rfl⟩
      obtain ⟨X, hX⟩ : ∃ X, x.toNat = X := ⟨_, rfl⟩
      have he : (byts s).getD k 0 = X := by rw [← byte_at hlt, hx, hX]
      by_cases hk0 : k < k0
      · have hb := K3.out k hk0
        rw [he] at hb
        have hb1 : ¬ (X : Int) < 48 := by omega
        have hb2 : ¬ (57 : Int) < X := by omega
        clear he
        go_wp2_with fail
        go_round
        case rel => exact ⟨k + 1, by omega, by go_num⟩
        case measure => simp [intOf]; omega
      · obtain rfl : k0 = k := by omega
        have hb := K2.out
        rw [he] at hb
        clear he
        by_cases c : X < 48
        · have hb1 : (X : Int) < 48 := by omega
          go_wp2_with fail
          refine bodyPost_ret (v := .tuple #[.agg #[.int .u64 0, .int .u64 0], .int .i64 3]) (by simp [results, Try.results28, go_sem, ↓IntWalk.iteOmega, *]) rfl ?_
          exact ⟨rfl, (by repeat (first | (with_reducible exact Below.refl _ _) | ((with_reducible refine Below.alloc ?_ ?_ _); rotate_left; (next => ((try dsimp only); (try simp only [World.size_alloc, World.size_setCell, World.size_drew]); omega))) | ((with_reducible refine Below.setCell ?_ ?_ _); rotate_left; (next => ((try dsimp only); (try simp only [World.size_alloc, World.size_setCell, World.size_drew]); omega))) | (with_reducible refine Below.drew ?_) | (refine Below.trans ?_ (by assumption))))⟩
        · have hb1 : ¬ (X : Int) < 48 := by omega
          have hb2 : (57 : Int) < X := by omega
          go_wp2_with fail
          refine bodyPost_ret (v := .tuple #[.agg #[.int .u64 0, .int .u64 0], .int .i64 3]) (by simp [results, Try.results28, go_sem, ↓IntWalk.iteOmega, *]) rfl ?_
          exact ⟨rfl, (by repeat (first | (with_reducible exact Below.refl _ _) | ((with_reducible refine Below.alloc ?_ ?_ _); rotate_left; (next => ((try dsimp only); (try simp only [World.size_alloc, World.size_setCell, World.size_drew]); omega))) | ((with_reducible refine Below.setCell ?_ ?_ _); rotate_left; (next => ((try dsimp only); (try simp only [World.size_alloc, World.size_setCell, World.size_drew]); omega))) | (with_reducible refine Below.drew ?_) | (refine Below.trans ?_ (by assumption))))⟩

set_option maxHeartbeats 8000000 in
set_option maxRecDepth 100000 in
theorem parse_val (s : ByteArray) (V : Nat) (RV : Value) (w : World) (hm : s.size ≤ 9223372036854775807) (h : Num (byts s)) (hv : pv (byts s) = V)
    (hRV : (U128 (V : Int) ∧ RV = .tuple #[.agg #[.int .u64 (hi V), .int .u64 (lo V)], .int .i64 0]) ∨ (¬ U128 (V : Int) ∧ RV = .tuple #[.agg #[.int .u64 0, .int .u64 0], .int .i64 2])) :
    Calls Try.prog 28 #[.string s] w fun e w' => e = .returned RV ∧ Below w.heap.size w w' := by
  obtain ⟨hd, hn0, hh⟩ := h
  have h1 : 1 ≤ s.size := by have := List.length_pos_iff.2 hn0; rw [byts_len] at this; exact this
  have hne := not_nil h1
  have hne2 := not_empty h1
  have K3 := Lib.hid (show ∀ j, j < s.size → 48 ≤ (byts s).getD j 0 ∧ (byts s).getD j 0 ≤ 57 from fun j hj => hd _ (by
    rw [List.getD_eq_getElem?_getD, List.getElem?_eq_getElem (by rw [byts_len]; exact hj)]
    exact List.getElem_mem _))
  have KS := Lib.hid (show ∀ k, k < s.size → pv ((byts s).take (k + 1)) = pv ((byts s).take k) * 10 + ((byts s).getD k 0 - 48) from fun k hk => pv_take_succ (by rw [byts_len]; exact hk))
  have KL := Lib.hid (show ∀ k, pv ((byts s).take k) ≤ V from fun k => hv ▸ pv_le_take hd k)
  have KE := Lib.hid (show pv ((byts s).take s.size) = V by rw [List.take_of_length_le (by rw [byts_len]; exact Nat.le_refl _), hv])
  obtain ⟨x0, hx0⟩ : ∃ x : UInt8, s[0]'(by omega) = x := ⟨_, rfl⟩
  obtain ⟨X0, hX0⟩ : ∃ X, x0.toNat = X := ⟨_, rfl⟩
  have e0 : (byts s).getD 0 0 = X0 := by rw [← byte_at (by omega), hx0, hX0]
  have hcs : (¬ (1 : Int) < s.size) ∨ ((1 : Int) < s.size ∧ ¬ (X0 : Int) = 48) := by
    by_cases c : 1 < s.size
    · have := hh (by rw [byts_len]; exact c)
      exact .inr ⟨by omega, by rw [e0] at this; omega⟩
    · exact .inl (by omega)
  have qa := alloc_cells
  have qf := alloc_frozens
  clear hd hn0 hh e0 hv
  rcases hcs with g1 | ⟨g1, g2⟩
  all_goals
    go_enter Try.func28, Try.ntmps28
    go_wp2_with fail
    go_loop [24] (fun i => ∃ k : Nat, k ≤ s.size ∧ i = .int .i64 k) (fun i => s.size - (intOf i).toNat)
    case atStart => exact ⟨0, Nat.zero_le _, rfl⟩
    case round =>
      obtain ⟨k, hk, rfl⟩ := hrel
      by_cases hlt : k < s.size
      · obtain ⟨x, hx⟩ : ∃ x : UInt8, s[k]'hlt = x := ⟨_, rfl⟩
        obtain ⟨X, hX⟩ : ∃ X, x.toNat = X := ⟨_, rfl⟩
        have hb := K3.out k hlt
        rw [← byte_at hlt, hx, hX] at hb
        have hb1 : ¬ (X : Int) < 48 := by omega
        have hb2 : ¬ (57 : Int) < X := by omega
        go_wp2_with fail
        go_round
        case rel => exact ⟨k + 1, by omega, by go_num⟩
        case measure => simp [intOf]; omega
      · obtain rfl : s.size = k := by omega
        go_wp2_with fail
        go_loopw [41] (fun i wr => ∃ k : Nat, k ≤ s.size ∧ i = .int .i64 k ∧ U128 ((pv ((byts s).take k) : Nat) : Int) ∧
          wr.cell? ⟨w.heap.size + 1, 0, none⟩ = some (.int .u64 (hi (pv ((byts s).take k) : Nat))) ∧ wr.cell? ⟨w.heap.size + 1, 1, none⟩ = some (.int .u64 (lo (pv ((byts s).take k) : Nat))) ∧ (∀ o, wr.frozen? ⟨w.heap.size + 1, o, none⟩ = false) ∧
          wr.cell? ⟨w.heap.size, 0, none⟩ = some (.int .u64 0) ∧ wr.cell? ⟨w.heap.size, 1, none⟩ = some (.int .u64 0) ∧ (∀ o, wr.frozen? ⟨w.heap.size, o, none⟩ = false) ∧ w.heap.size + 2 ≤ wr.heap.size ∧ Below w.heap.size w wr) (fun i _ => s.size - (intOf i).toNat)
        case atStart => exact ⟨0, Nat.zero_le _, rfl, U128.zero, by simp [go_sem, pv, hi_zero], by simp [go_sem, pv, lo_zero], fun o => by simp [go_sem], by simp [go_sem], by simp [go_sem], fun o => by simp [go_sem], by simp, (by repeat (first | (with_reducible exact Below.refl _ _) | ((with_reducible refine Below.alloc ?_ ?_ _); rotate_left; (next => ((try dsimp only); (try simp only [World.size_alloc, World.size_setCell, World.size_drew]); omega))) | ((with_reducible refine Below.setCell ?_ ?_ _); rotate_left; (next => ((try dsimp only); (try simp only [World.size_alloc, World.size_setCell, World.size_drew]); omega))) | (with_reducible refine Below.drew ?_) | (refine Below.trans ?_ (by assumption))))⟩
        case round =>
          obtain ⟨k, hk, rfl, hU, ka, kb, kc, kd, ke, kf, hsz, bel⟩ := hrel
          by_cases hlt : k < s.size
          · obtain ⟨x, hx⟩ : ∃ x : UInt8, s[k]'hlt = x := ⟨_, rfl⟩
            obtain ⟨X, hX⟩ : ∃ X, x.toNat = X := ⟨_, rfl⟩
            have hb := K3.out k hlt
            have hs := KS.out k hlt
            have hl := KL.out (k + 1)
            rw [← byte_at hlt, hx, hX] at hb hs
            obtain ⟨P, hP⟩ : ∃ P, pv ((byts s).take k) = P := ⟨_, rfl⟩
            rw [hP] at hU ka kb hs
            have n0 : ¬ V < P := by have := KL.out k; omega
            obtain ⟨d, hd⟩ : ∃ d, X - 48 = d := ⟨_, rfl⟩
            rw [hd] at hs
            rw [hs] at hl
            have d9 : d ≤ 9 := by omega
            have s1 : IntKind.u8.wrap ((X : Int) - 48) = d := by simp only [IntKind.wrap, IntKind.signed, IntKind.bits]; simp; omega
            have s2 : IntKind.u64.wrap (d : Int) = d := by simp only [IntKind.wrap, IntKind.signed, IntKind.bits]; simp; omega
            have s4 : IntKind.u8.wrap (d : Int) = d := by simp only [IntKind.wrap, IntKind.signed, IntKind.bits]; simp; omega
            obtain ⟨T, hT⟩ : ∃ T, (P : Int) * 10 = T := ⟨_, rfl⟩
            have HS := Lib.hid hs
            have k0 : (0 : Int) ≤ k := by omega
            have k1 : (k : Int) < s.size := by omega
            by_cases ht : U128 T
            · by_cases ha : U128 (T + d)
              · have HA := Lib.hid (fun w => add_ok T d (T + d) (Wd.mk ht) (Wd.lit (l := (d : Int)) (by unfold U64; omega)) rfl ha w)
                have HN := Lib.hid (show T + (d : Int) = ((P * 10 + d : Nat) : Int) by omega)
                have HH := Lib.hid (⟨ha, bel⟩ : _ ∧ _)
                have HTm := Lib.hid (fun w => times_ok (P : Int) 10 T (Wd.mk hU) (Wd.lit (l := 10) (by unfold U64; omega)) hT ht w)
                clear hl hb hs hd hT ht ha hU hP bel hRV
                go_wp2_with fail
                refine (HTm.out _).mono ?_
                rintro e w1 ⟨rfl, hb1⟩
                have z1 := hb1.size
                have c1 := Below.cells hb1
                have f1 := Below.frozens hb1
                try simp only [World.size_alloc, World.size_setCell, World.size_drew] at z1 c1 f1
                go_wp2_with fail
                refine wp_region_quiet_then 8 #[true, true, true, true, true, true, true, true, false, false, false, false, false] (Ext _) (by kernel_rfl) (by kernel_rfl) (Ext.drawn _) ?_
                simp only [List.take_succ_cons, List.take_zero]
                repeat (first | go_big_quiet_skip | go_big_quiet_step (fail) | (refine BigFrame.wpQuiet_want rfl (fun K hK => ?_); apply Exists.intro; refine ⟨fun w2 h2 => ?_, ?_⟩; (next => (have g1 := Below.cells h2.below; have g2 := Below.frozens h2.below; (try simp only [World.size_alloc, World.size_setCell] at g1 g2); first | (go_simp; (go_at_call 18; refine h2.calls (HA.out _))) | (simp [go_sem, ↓IntWalk.iteOmega, *]; done) | (simp [go_sem, ↓IntWalk.iteOmega, *]; rfl)))); (go_simp; refine hK _ ?_; clear hK K))
                refine wpQuiet_nil ?_
                intro w5 h5
                have hb5 := h5.below
                clear h5
                change wpAny _ _ _ _ 5 _ _ _
                have z5 := hb5.size
                have c5 := Below.cells hb5
                have f5 := Below.frozens hb5
                try simp only [World.size_alloc, World.size_setCell, World.size_drew] at z5 c5 f5
                (refine wpAny_take (i := 8) (v := ?_) rfl (by kernel_rfl) (by kernel_rfl) (by kernel_rfl) (fun _ _ _ h => h) (Or.inl ⟨by rfl, ?_⟩) ?_; (rotate_left; (intro w; go_simp; try with_reducible rfl)))
                (refine wpAny_take (i := 9) (v := ?_) rfl (by kernel_rfl) (by kernel_rfl) (by kernel_rfl) (fun _ _ _ h => h) (Or.inl ⟨by rfl, ?_⟩) ?_; (rotate_left; (intro w; go_simp; try with_reducible rfl)))
                (refine wpAny_take (i := 10) (v := ?_) rfl (by kernel_rfl) (by kernel_rfl) (by kernel_rfl) (fun _ _ _ h => h) (Or.inl ⟨by rfl, ?_⟩) ?_; (rotate_left; (intro w; go_simp; try with_reducible rfl)))
                have g0 : w5.cell? ⟨w.heap.size + 1, 0, none⟩ = some (.int .u64 (hi (P : Int))) := by simp [go_sem, ↓IntWalk.iteOmega, *]
                have g1 : w5.cell? ⟨w.heap.size + 1, 1, none⟩ = some (.int .u64 (lo (P : Int))) := by simp [go_sem, ↓IntWalk.iteOmega, *]
                have g2 : ∀ o, w5.frozen? ⟨w.heap.size + 1, o, none⟩ = false := by intro o; simp [go_sem, ↓IntWalk.iteOmega, *]
                have g3 : w5.cell? ⟨w.heap.size, 0, none⟩ = some (.int .u64 0) := by simp [go_sem, ↓IntWalk.iteOmega, *]
                have g4 : w5.cell? ⟨w.heap.size, 1, none⟩ = some (.int .u64 0) := by simp [go_sem, ↓IntWalk.iteOmega, *]
                have g5 : ∀ o, w5.frozen? ⟨w.heap.size, o, none⟩ = false := by intro o; simp [go_sem, ↓IntWalk.iteOmega, *]
                clear qa qf c1 f1 c5 f5 ka kb kc kd ke kf
                refine wpAny_ready (rs := [11]) (by kernel_rfl) (by simp) ?_
                refine AllReady.cons rfl (fun K hK => ?_) AllReady.nil
                rw [if_pos (by rfl)]
                go_simp
                refine hK _ _ ?_
                clear hK K
                (refine wpAny_take (i := 12) (v := ?_) rfl (by kernel_rfl) (by kernel_rfl) (by kernel_rfl) (fun _ _ _ h => h) (Or.inl ⟨by rfl, ?_⟩) ?_; (rotate_left; (intro w; go_simp; try with_reducible rfl)))
                refine wpAny_done (by kernel_rfl) ?_ _
                go_wp2_with fail
                go_roundw
                case rel =>
                  have hs := HS.out
                  have hn := HN.out
                  obtain ⟨ha, bel⟩ := HH.out
                  refine ⟨k + 1, by omega, by go_num, ?_, ?_, ?_, ?_, ?_, ?_, ?_, ?_, ?_⟩
                  · rw [hs, ← hn]; exact ha
                  · rw [hs, ← hn]; clear hs hn; simp [go_sem, ↓IntWalk.iteOmega, *]
                  · rw [hs, ← hn]; clear hs hn; simp [go_sem, ↓IntWalk.iteOmega, *]
                  · intro o; clear hs hn; simp [go_sem, ↓IntWalk.iteOmega, *]
                  · clear hs hn; simp [go_sem, ↓IntWalk.iteOmega, *]
                  · clear hs hn; simp [go_sem, ↓IntWalk.iteOmega, *]
                  · intro o; clear hs hn; simp [go_sem, ↓IntWalk.iteOmega, *]
                  · simp only [World.size_setCell]; omega
                  · exact (by repeat (first | (with_reducible exact Below.refl _ _) | ((with_reducible refine Below.alloc ?_ ?_ _); rotate_left; (next => ((try dsimp only); (try simp only [World.size_alloc, World.size_setCell, World.size_drew]); omega))) | ((with_reducible refine Below.setCell ?_ ?_ _); rotate_left; (next => ((try dsimp only); (try simp only [World.size_alloc, World.size_setCell, World.size_drew]); omega))) | (with_reducible refine Below.drew ?_) | ((with_reducible refine Below.trans ?_ (Below.mono hb5 ?_)); rotate_left; (next => ((try dsimp only); (try simp only [World.size_alloc, World.size_setCell, World.size_drew]); omega))) | ((with_reducible refine Below.trans ?_ (Below.mono hb1 ?_)); rotate_left; (next => ((try dsimp only); (try simp only [World.size_alloc, World.size_setCell, World.size_drew]); omega))) | (with_reducible exact bel)))
                case measure => simp [intOf]; omega
              · have HA := Lib.hid (fun w => add_large T d (Wd.mk ht) (Wd.lit (l := (d : Int)) (by unfold U64; omega)) ha w)
                have hVU : ¬ U128 (V : Int) := by unfold U128 at *; omega
                have hR := hRV.resolve_left (fun h => hVU h.1)
                have HTm := Lib.hid (fun w => times_ok (P : Int) 10 T (Wd.mk hU) (Wd.lit (l := 10) (by unfold U64; omega)) hT ht w)
                have HR := Lib.hid hR.2
                clear hl hb hs hd hT ht ha hU hP hRV hR hVU
                go_wp2_with fail
                refine (HTm.out _).mono ?_
                rintro e w1 ⟨rfl, hb1⟩
                have z1 := hb1.size
                have c1 := Below.cells hb1
                have f1 := Below.frozens hb1
                try simp only [World.size_alloc, World.size_setCell, World.size_drew] at z1 c1 f1
                go_wp2_with fail
                refine wp_region_quiet_then 8 #[true, true, true, true, true, true, true, true, false, false, false, false, false] (Ext _) (by kernel_rfl) (by kernel_rfl) (Ext.drawn _) ?_
                simp only [List.take_succ_cons, List.take_zero]
                repeat (first | go_big_quiet_skip | go_big_quiet_step (fail) | (refine BigFrame.wpQuiet_want rfl (fun K hK => ?_); apply Exists.intro; refine ⟨fun w2 h2 => ?_, ?_⟩; (next => (have g1 := Below.cells h2.below; have g2 := Below.frozens h2.below; (try simp only [World.size_alloc, World.size_setCell] at g1 g2); first | (go_simp; (go_at_call 18; refine h2.calls (HA.out _))) | (simp [go_sem, ↓IntWalk.iteOmega, *]; done) | (simp [go_sem, ↓IntWalk.iteOmega, *]; rfl)))); (go_simp; refine hK _ ?_; clear hK K))
                refine wpQuiet_nil ?_
                intro w5 h5
                have hb5 := h5.below
                clear h5
                change wpAny _ _ _ _ 5 _ _ _
                have z5 := hb5.size
                have c5 := Below.cells hb5
                have f5 := Below.frozens hb5
                try simp only [World.size_alloc, World.size_setCell, World.size_drew] at z5 c5 f5
                (refine wpAny_take (i := 8) (v := ?_) rfl (by kernel_rfl) (by kernel_rfl) (by kernel_rfl) (fun _ _ _ h => h) (Or.inl ⟨by rfl, ?_⟩) ?_; (rotate_left; (intro w; go_simp; try with_reducible rfl)))
                (refine wpAny_take (i := 9) (v := ?_) rfl (by kernel_rfl) (by kernel_rfl) (by kernel_rfl) (fun _ _ _ h => h) (Or.inl ⟨by rfl, ?_⟩) ?_; (rotate_left; (intro w; go_simp; try with_reducible rfl)))
                (refine wpAny_take (i := 10) (v := ?_) rfl (by kernel_rfl) (by kernel_rfl) (by kernel_rfl) (fun _ _ _ h => h) (Or.inl ⟨by rfl, ?_⟩) ?_; (rotate_left; (intro w; go_simp; try with_reducible rfl)))
                have g0 : w5.cell? ⟨w.heap.size + 1, 0, none⟩ = some (.int .u64 (hi (P : Int))) := by simp [go_sem, ↓IntWalk.iteOmega, *]
                have g1 : w5.cell? ⟨w.heap.size + 1, 1, none⟩ = some (.int .u64 (lo (P : Int))) := by simp [go_sem, ↓IntWalk.iteOmega, *]
                have g2 : ∀ o, w5.frozen? ⟨w.heap.size + 1, o, none⟩ = false := by intro o; simp [go_sem, ↓IntWalk.iteOmega, *]
                have g3 : w5.cell? ⟨w.heap.size, 0, none⟩ = some (.int .u64 0) := by simp [go_sem, ↓IntWalk.iteOmega, *]
                have g4 : w5.cell? ⟨w.heap.size, 1, none⟩ = some (.int .u64 0) := by simp [go_sem, ↓IntWalk.iteOmega, *]
                have g5 : ∀ o, w5.frozen? ⟨w.heap.size, o, none⟩ = false := by intro o; simp [go_sem, ↓IntWalk.iteOmega, *]
                clear qa qf c1 f1 c5 f5 ka kb kc kd ke kf
                refine wpAny_ready (rs := [11]) (by kernel_rfl) (by simp) ?_
                refine AllReady.cons rfl (fun K hK => ?_) AllReady.nil
                rw [if_pos (by rfl)]
                go_simp
                refine hK _ _ ?_
                clear hK K
                (refine wpAny_take (i := 12) (v := ?_) rfl (by kernel_rfl) (by kernel_rfl) (by kernel_rfl) (fun _ _ _ h => h) (Or.inl ⟨by rfl, ?_⟩) ?_; (rotate_left; (intro w; go_simp; try with_reducible rfl)))
                refine wpAny_done (by kernel_rfl) ?_ _
                go_wp2_with fail
                refine bodyPost_ret (v := .tuple #[.agg #[.int .u64 0, .int .u64 0], .int .i64 2]) (by simp [results, Try.results28, go_sem, ↓IntWalk.iteOmega, *]) rfl ?_
                exact ⟨by rw [HR.out], (by repeat (first | (with_reducible exact Below.refl _ _) | ((with_reducible refine Below.alloc ?_ ?_ _); rotate_left; (next => ((try dsimp only); (try simp only [World.size_alloc, World.size_setCell, World.size_drew]); omega))) | ((with_reducible refine Below.setCell ?_ ?_ _); rotate_left; (next => ((try dsimp only); (try simp only [World.size_alloc, World.size_setCell, World.size_drew]); omega))) | (with_reducible refine Below.drew ?_) | ((with_reducible refine Below.trans ?_ (Below.mono hb5 ?_)); rotate_left; (next => ((try dsimp only); (try simp only [World.size_alloc, World.size_setCell, World.size_drew]); omega))) | ((with_reducible refine Below.trans ?_ (Below.mono hb1 ?_)); rotate_left; (next => ((try dsimp only); (try simp only [World.size_alloc, World.size_setCell, World.size_drew]); omega))) | (with_reducible exact bel)))⟩
            · have HTm := Lib.hid (fun w => times_large (P : Int) 10 (Wd.mk hU) (Wd.lit (l := 10) (by unfold U64; omega)) (by rw [hT]; exact ht) w)
              have hVU : ¬ U128 (V : Int) := by unfold U128 at *; omega
              have hR := hRV.resolve_left (fun h => hVU h.1)
              have HR := Lib.hid hR.2
              clear hl hb hs hd hT ht hU hP hRV hR hVU
              go_wp2_with fail
              refine (HTm.out _).mono ?_
              rintro e w1 ⟨rfl, hb1⟩
              have z1 := hb1.size
              have c1 := Below.cells hb1
              have f1 := Below.frozens hb1
              try simp only [World.size_alloc, World.size_setCell, World.size_drew] at z1 c1 f1
              go_wp2_with fail
              refine bodyPost_ret (v := .tuple #[.agg #[.int .u64 0, .int .u64 0], .int .i64 2]) (by simp [results, Try.results28, go_sem, ↓IntWalk.iteOmega, *]) rfl ?_
              exact ⟨by rw [HR.out], (by repeat (first | (with_reducible exact Below.refl _ _) | ((with_reducible refine Below.alloc ?_ ?_ _); rotate_left; (next => ((try dsimp only); (try simp only [World.size_alloc, World.size_setCell, World.size_drew]); omega))) | ((with_reducible refine Below.setCell ?_ ?_ _); rotate_left; (next => ((try dsimp only); (try simp only [World.size_alloc, World.size_setCell, World.size_drew]); omega))) | (with_reducible refine Below.drew ?_) | ((with_reducible refine Below.trans ?_ (Below.mono hb1 ?_)); rotate_left; (next => ((try dsimp only); (try simp only [World.size_alloc, World.size_setCell, World.size_drew]); omega))) | (with_reducible exact bel)))⟩
          · obtain rfl : s.size = k := by omega
            rw [KE.out] at hU ka kb
            have hR := hRV.resolve_right (fun h => h.1 hU)
            have HR := Lib.hid hR.2
            clear hRV hR hU
            go_wp2_with fail
            refine bodyPost_ret (v := .tuple #[.agg #[.int .u64 (hi V), .int .u64 (lo V)], .int .i64 0]) (by simp [results, Try.results28, go_sem, ↓IntWalk.iteOmega, *]) rfl ?_
            exact ⟨by rw [HR.out], (by repeat (first | (with_reducible exact Below.refl _ _) | ((with_reducible refine Below.alloc ?_ ?_ _); rotate_left; (next => ((try dsimp only); (try simp only [World.size_alloc, World.size_setCell, World.size_drew]); omega))) | ((with_reducible refine Below.setCell ?_ ?_ _); rotate_left; (next => ((try dsimp only); (try simp only [World.size_alloc, World.size_setCell, World.size_drew]); omega))) | (with_reducible refine Below.drew ?_) | (with_reducible exact bel)))⟩
end Go.Proofs.Ytlnagfmaiabhaaa
