import Derived.Test.YtlnagfmaiabhaaaPu2
import Derived.Test.YtlnagfmaiabhaaaAp
import Derived.Test.YtlnagfmaiabhaaaEq
import Derived.Test.YtlnagfmaiabhaaaSu
import Derived.Test.YtlnagfmaiabhaaaVw
import Derived.Test.YtlnagfmaiabhaaaQV
set_option linter.unusedSimpArgs false
set_option linter.unusedVariables false
namespace Go.Proofs.Ytlnagfmaiabhaaa
open Go Go.RowKit
theorem own_inRow' {w : World} {base n c : Nat} {A : Option Addr} {l : List Int} (h : w.ownsRow base 3 1 (.slice A n c) n (l.map (Value.int .i64))) : InRow w A n c l := by
  obtain ⟨A', c', e, h1, h2, h3⟩ := own_form h
  injection e with e1 e2 e3
  subst e1 e3
  exact ⟨Row.of_own h, h1, h2, h3⟩
theorem lit2' (w : World) (o : Obj) (T : TypeId) (l : List Int) (n : Nat) (hn : l.length = n) : Row ((w.alloc o).alloc (.cells (l.map (Value.int .i64)).toArray T)) (some ⟨w.heap.size + 1, 0, none⟩) n l := by
  have h := Row.lit (w.alloc o) T l n hn
  rwa [World.size_alloc] at h
/-- Three cells of a block, stored. -/
theorem own_three {w : World} {B e s n : Nat} {v : Value} {xs : List Value} (h : w.ownsRow B e s v n xs) {b : Nat} (hb : b < B) (u0 u1 u2 : Value) : (((w.setCell ⟨b, 0, none⟩ u0).setCell ⟨b, 1, none⟩ u1).setCell ⟨b, 2, none⟩ u2).ownsRow B e s v n xs :=
  own_set (own_set (own_set h hb 0 u0) hb 1 u1) hb 2 u2

set_option maxRecDepth 100000 in
set_option maxHeartbeats 16000000 in
theorem winSlides_walk (s : Int) (a : Option Addr) (len cap : Nat) (l : List Int) (w : World) (_ : (Lit.int .i64 s).wf = true) (hin : InRow w a len cap l) :
    Calls Try.prog 7 #[.int .i64 s, .slice a len cap] w fun e w' =>
      e = .returned (.bool true) ∧ Below w.heap.size w w' := by
  have b1 := within_bd s (n := 63) (by omega)
  obtain ⟨X, hX⟩ : ∃ X, within s 63 = X := ⟨_, rfl⟩
  obtain ⟨Z, hZ⟩ : ∃ Z, 1 + X = Z := ⟨_, rfl⟩
  rw [hX] at b1
  have zb : 1 ≤ Z ∧ Z ≤ 63 := by omega
  have HX := Lib.hid hX
  have hwz : IntKind.i64.wrap (1 + X) = Z := by rw [hZ]; exact IntWalk.i64_in _ (by omega)
  clear hX hZ
  obtain ⟨ys, n, hy, hn, hm, hb⟩ := vals_facts l
  have HVal := Lib.hid (fun w' (h : InRow w' a len cap l) => values_own a len cap l w' h ys n hy hn)
  have HIn := Lib.hid hin
  have HN := Lib.hid hn
  have HYb := Lib.hid hb
  have HP := Lib.hid (fun w' A n c (h : InRow w' A n c [3, 4]) (hn : (n : Int) ≤ 2) => push_ok 2 5 A n c [3, 4] w' h (by omega) hn (by intro x hx; simp at hx; omega) (by omega))
  have HPs := Lib.hid (fun w' A n c (L : List Int) (x : Int) (h : InRow w' A n c L) (hn : (n : Int) ≤ Z) (hb : Btw 0 16777216 L) (hx : 0 ≤ x ∧ x ≤ 16777216) => push_ok Z x A n c L w' h (by omega) hn hb hx)
  have qa := alloc_cells
  have qf := alloc_frozens
  clear hin hy hn hb
  go_enter Try.func7, Try.ntmps7
  go_wp2_with fail
  refine (HP.out _ _ 2 2 ⟨Row.lit w 3 [3, 4] 2 rfl, by omega, by unfold maxLen; omega, fun h => by cases h⟩ (by omega)).mono ?_
  rintro e w1 ⟨A1, n1, c1_, rfl, o1, hb1⟩
  rw [show pushd 2 [3, 4] 5 = [4, 5] by simp [pushd]] at o1
  obtain rfl : n1 = 2 := by have := o1.1; simp at this; omega
  have R1 := Lib.hid (Row.of_own o1)
  clear o1
  have z1 := hb1.size
  have c1 := Below.cells hb1
  have f1 := Below.frozens hb1
  try simp only [World.size_alloc, World.size_setCell, World.size_drew] at z1 c1 f1
  go_wp2_with fail
  refine (equal_ok A1 (some ⟨w1.heap.size + 1, 0, none⟩) 2 c1_ 2 2 [4, 5] _ (R1.out.below (by repeat (first | (with_reducible exact Below.refl _ _) | ((with_reducible refine Below.alloc ?_ ?_ _); rotate_left; (next => ((try dsimp only); (try simp only [World.size_alloc, World.size_setCell, World.size_drew]); omega))) | ((with_reducible refine Below.setCell ?_ ?_ _); rotate_left; (next => ((try dsimp only); (try simp only [World.size_alloc, World.size_setCell, World.size_drew]); omega))) | (with_reducible refine Below.drew ?_) | (refine Below.trans ?_ (by assumption))))) (lit2' w1 _ 3 [4, 5] 2 rfl) (by omega)).mono ?_
  rintro e w2 ⟨rfl, hb2⟩
  have z2 := hb2.size
  have c2 := Below.cells hb2
  have f2 := Below.frozens hb2
  try simp only [World.size_alloc, World.size_setCell, World.size_drew] at z2 c2 f2
  go_wp2_with fail
  refine (within_any s 63 X _ (by omega) (by omega) HX.out).mono ?_
  rintro e w' ⟨rfl, rfl⟩
  go_wp2_with fail
  have HB2 := Lib.hid (show Below w.heap.size w w2 from (by repeat (first | (with_reducible exact Below.refl _ _) | ((with_reducible refine Below.alloc ?_ ?_ _); rotate_left; (next => ((try dsimp only); (try simp only [World.size_alloc, World.size_setCell, World.size_drew]); omega))) | ((with_reducible refine Below.setCell ?_ ?_ _); rotate_left; (next => ((try dsimp only); (try simp only [World.size_alloc, World.size_setCell, World.size_drew]); omega))) | (with_reducible refine Below.drew ?_) | ((with_reducible refine Below.trans ?_ (Below.mono hb2 ?_)); rotate_left; (next => ((try dsimp only); (try simp only [World.size_alloc, World.size_setCell, World.size_drew]); omega))) | ((with_reducible refine Below.trans ?_ (Below.mono hb1 ?_)); rotate_left; (next => ((try dsimp only); (try simp only [World.size_alloc, World.size_setCell, World.size_drew]); omega))))))
  clear c1 f1 c2 f2
  refine (HVal.out _ (HIn.out.below (HB2.out.trans (by repeat (first | (with_reducible exact Below.refl _ _) | ((with_reducible refine Below.alloc ?_ ?_ _); rotate_left; (next => ((try dsimp only); (try simp only [World.size_alloc, World.size_setCell, World.size_drew]); omega))) | ((with_reducible refine Below.setCell ?_ ?_ _); rotate_left; (next => ((try dsimp only); (try simp only [World.size_alloc, World.size_setCell, World.size_drew]); omega))) | (with_reducible refine Below.drew ?_) | (refine Below.trans ?_ (by assumption))))))).mono ?_
  rintro e w3 ⟨A3, cap3, rfl, o3, hb3⟩
  have z3 := hb3.size
  have c3 := Below.cells hb3
  have f3 := Below.frozens hb3
  try simp only [World.size_alloc, World.size_setCell, World.size_drew] at z3 c3 f3
  have o3' := own_mono (B' := w2.heap.size + 2) o3 (by simp)
  have HO3 := Lib.hid o3'
  clear o3 o3'
  go_wp2_with fail
  have ka : w3.cell? ⟨w2.heap.size, 0, none⟩ = some (.int .i64 Z) := by simp [go_sem, ↓IntWalk.iteOmega, *]
  have kb : w3.cell? ⟨w2.heap.size, 1, none⟩ = some (.slice none 0 0) := by simp [go_sem, ↓IntWalk.iteOmega, *]
  have kc : ∀ o, w3.frozen? ⟨w2.heap.size, o, none⟩ = false := by intro o; simp [go_sem, ↓IntWalk.iteOmega, *]
  have kd : w3.cell? ⟨w2.heap.size + 1, 0, none⟩ = some (.int .i64 0) := by simp [go_sem, ↓IntWalk.iteOmega, *]
  have ke : w3.cell? ⟨w2.heap.size + 1, 1, none⟩ = some (.int .i64 0) := by simp [go_sem, ↓IntWalk.iteOmega, *]
  have kf : w3.cell? ⟨w2.heap.size + 1, 2, none⟩ = some (.int .i64 0) := by simp [go_sem, ↓IntWalk.iteOmega, *]
  have kg : ∀ o, w3.frozen? ⟨w2.heap.size + 1, o, none⟩ = false := by intro o; simp [go_sem, ↓IntWalk.iteOmega, *]
  have bel3 : Below w.heap.size w w3 := HB2.out.trans (by repeat (first | (with_reducible exact Below.refl _ _) | ((with_reducible refine Below.alloc ?_ ?_ _); rotate_left; (next => ((try dsimp only); (try simp only [World.size_alloc, World.size_setCell, World.size_drew]); omega))) | ((with_reducible refine Below.setCell ?_ ?_ _); rotate_left; (next => ((try dsimp only); (try simp only [World.size_alloc, World.size_setCell, World.size_drew]); omega))) | (with_reducible refine Below.drew ?_) | ((with_reducible refine Below.trans ?_ (Below.mono hb3 ?_)); rotate_left; (next => ((try dsimp only); (try simp only [World.size_alloc, World.size_setCell, World.size_drew]); omega)))))
  have HS := Lib.hid (⟨ka, kb, kc, kd, ke, kf, kg, bel3⟩ : _ ∧ _ ∧ _ ∧ _ ∧ _ ∧ _ ∧ _ ∧ _)
  have zz : w2.heap.size + 2 ≤ w3.heap.size := by omega
  clear ka kb kc kd ke kf kg bel3 c3 f3 hb3
  go_loopw [38] (fun i wr => ∃ (k : Nat) (L : List Int) (A7 : Option Addr) (n7 c7 : Nat) (S Q : Int), k ≤ n ∧ i = .int .i64 k ∧ L.length = n7 ∧ (n7 : Int) ≤ Z ∧ Btw 0 16777216 L ∧ sumI L = S ∧ sqI L = Q ∧ wr.ownsRow w3.heap.size 3 1 (.slice A7 n7 c7) n7 (L.map (Value.int .i64)) ∧
    wr.cell? ⟨w2.heap.size, 0, none⟩ = some (.int .i64 Z) ∧ wr.cell? ⟨w2.heap.size, 1, none⟩ = some (.slice A7 n7 c7) ∧ (∀ o, wr.frozen? ⟨w2.heap.size, o, none⟩ = false) ∧
    wr.cell? ⟨w2.heap.size + 1, 0, none⟩ = some (.int .i64 n7) ∧ wr.cell? ⟨w2.heap.size + 1, 1, none⟩ = some (.int .i64 S) ∧ wr.cell? ⟨w2.heap.size + 1, 2, none⟩ = some (.int .i64 Q) ∧ (∀ o, wr.frozen? ⟨w2.heap.size + 1, o, none⟩ = false) ∧
    Below w2.heap.size w3 wr ∧ wr.ownsRow (w2.heap.size + 2) 3 1 (.slice A3 n cap3) n (ys.map (Value.int .i64)) ∧ w3.heap.size ≤ wr.heap.size) (fun i _ => n - (intOf i).toNat)
  case atStart => exact ⟨0, [], none, 0, 0, 0, 0, Nat.zero_le _, rfl, rfl, by omega, Btw.nil _ _, rfl, rfl, World.ownsRow_nil _ _ _ _, HS.out.1, HS.out.2.1, HS.out.2.2.1, HS.out.2.2.2.1, HS.out.2.2.2.2.1, HS.out.2.2.2.2.2.1, HS.out.2.2.2.2.2.2.1, Below.refl _ _, HO3.out, Nat.le_refl _⟩
  case round =>
    obtain ⟨k, L, A7, n7, c7, S, Q, hk, rfl, hL, hnZ, hLb, hS, hQ, hown, ka, kb, kc, kd, ke, kf, kg, bel, hro, hsz⟩ := hrel
    by_cases hlt : k < n
    · obtain ⟨g3, cap3', e3, hg3, hg4⟩ := hro.form (by omega)
      have hcel := hro.cells (g := g3) (by rw [e3]; rfl)
      injection e3 with e3 _ e3c
      subst e3 e3c
      have cx : wr.cell? ⟨g3, k, none⟩ = some (.int .i64 (ys.getD k 0)) := by
        have h1 := hcel k (.int .i64 (ys.getD k 0)) (by rw [List.getElem?_map, List.getElem?_eq_getElem (by have := HN.out; omega)]; simp [List.getD, show k < ys.length by have := HN.out; omega])
        rw [Go.WideShapes.add_plain, Nat.zero_add] at h1
        exact h1
      have hxb := HYb.out.get (k := k) (by have := HN.out; omega)
      obtain ⟨x, hxv, cx'⟩ := name_num cx
      rw [← hxv] at hxb
      have k0 : (0 : Int) ≤ k := by omega
      have k1 : (k : Int) < n := by omega
      obtain ⟨x0, x1⟩ := hxb
      have HRb := Lib.hid (⟨bel, hro⟩ : _ ∧ _)
      have HLb := Lib.hid hLb
      have HL := Lib.hid hL
      have HO := Lib.hid hown
      have HIR := Lib.hid (own_inRow' hown)
      have hok : SumsOK n7 S Q := by have h := sumsOK_of hLb (by omega); rw [hL, hS, hQ] at h; exact h
      have HOk := Lib.hid hok
      have HSQ := Lib.hid (⟨hS, hQ⟩ : _ ∧ _)
      by_cases hf : (n7 : Int) = Z
      · obtain ⟨y, L1, rfl⟩ : ∃ y L1, L = y :: L1 := by
          cases L with
          | nil => simp at hL; omega
          | cons y L1 => exact ⟨y, L1, rfl⟩
        have hL' : pushd Z (y :: L1) x = L1 ++ [x] := by unfold pushd; rw [if_pos (by rw [hL]; exact hf)]; rfl
        have hyb := hLb y (by simp)
        have hb' := Btw.append hLb.tail (Btw.one x0 x1)
        have hb2 := hLb.append (Btw.one x0 x1)
        obtain ⟨V, hV⟩ : ∃ V, Q + x * x = V := ⟨_, rfl⟩
        obtain ⟨V1, hV1⟩ : ∃ V1, V - y * y = V1 := ⟨_, rfl⟩
        have e1 : sumI (L1 ++ [x]) = S + x - y := by rw [sumI_append, ← hS]; simp [sumI]; omega
        have e2 : sqI (L1 ++ [x]) = V1 := by rw [sqI_append, ← hV1, ← hV, ← hQ]; simp [sqI]; omega
        have f1 : sumI ((y :: L1) ++ [x]) = S + x := by rw [sumI_append, hS]; simp [sumI]
        have f2 : sqI ((y :: L1) ++ [x]) = V := by rw [sqI_append, hQ, ← hV]; simp [sqI]
        have l1 : (L1 ++ [x]).length = n7 := by rw [List.length_append, ← hL]; simp
        have l2 : ((y :: L1) ++ [x]).length = n7 + 1 := by rw [List.length_append, hL]; rfl
        have ok2 : SumsOK ((n7 : Int) + 1) (S + x) V := by have h := sumsOK_of hb2 (by omega); rw [f1, f2, l2] at h; exact h
        have ok3 : SumsOK n7 (S + x - y) V1 := by have h := sumsOK_of hb' (by omega); rw [e1, e2, l1] at h; exact h
        have HA := Lib.hid (fun w => sadd_ok n7 S Q x (n7 + 1) (S + x) V hok (by omega) ⟨x0, x1⟩ rfl rfl hV w)
        have HLs := Lib.hid (fun w => sless_ok (n7 + 1) (S + x) V y n7 (S + x - y) V1 ok2 hyb (by omega) rfl hV1 ok3 w)
        have HOf := Lib.hid (fun A c w' (h : Row w' A n7 (L1 ++ [x])) => sof_ok A n7 c (L1 ++ [x]) (S + x - y) V1 w' h (by omega) hb' e1 e2)
        have HL' := Lib.hid (⟨hL', hb', e1, e2, l1⟩ : _ ∧ _ ∧ _ ∧ _ ∧ _)
        obtain ⟨g7, c7', e7, hg7, hl7⟩ := hown.form (by omega)
        have hce7 := hown.cells (g := g7) (by rw [e7]; rfl) 0 (.int .i64 y) rfl
        rw [Go.WideShapes.add_plain, Nat.zero_add] at hce7
        injection e7 with e7 _ e7c
        subst e7 e7c
        have d1 : ¬ g7 = w2.heap.size + 1 := by omega
        have d2 : ¬ w2.heap.size + 1 = g7 := by omega
        have d3 : (0 : Int) < n7 := by omega
        clear hL' hb' hb2 e1 e2 f1 f2 l1 l2 ok2 ok3 hV hV1 hok hown hL hLb hS hQ hxv cx hcel bel hro hf hyb
        go_wp2_with fail
        refine (HPs.out _ _ _ _ (y :: L1) x HIR.out hnZ HLb.out ⟨x0, x1⟩).mono ?_
        rintro e w4 ⟨A8, n8, c8, rfl, o8, hb4⟩
        rw [HL'.out.1] at o8
        obtain rfl : n8 = n7 := by have h1 := o8.1; rw [List.length_map, HL'.out.2.2.2.2] at h1; simpa using h1.symm
        have O8 := Lib.hid o8
        clear o8
        have z4 := hb4.size
        have c4 := Below.cells hb4
        have f4 := Below.frozens hb4
        try simp only [World.size_alloc, World.size_setCell, World.size_drew] at z4 c4 f4
        go_wp2_with fail
        refine (HA.out _).mono ?_
        rintro e w5 ⟨rfl, hb5⟩
        have z5 := hb5.size
        have c5 := Below.cells hb5
        have f5 := Below.frozens hb5
        try simp only [World.size_alloc, World.size_setCell, World.size_drew] at z5 c5 f5
        go_wp2_with fail
        have O5 := Lib.hid (own_three (own_below (O8.out.alloc _) hb5) (b := w2.heap.size + 1) (by omega) (.int .i64 ((n8 : Int) + 1)) (.int .i64 (S + x)) (.int .i64 V))
        have P5 := Lib.hid (own_three (own_below ((own_below HRb.out.2 hb4).alloc _) hb5) (b := w2.heap.size + 1) (by omega) (.int .i64 ((n8 : Int) + 1)) (.int .i64 (S + x)) (.int .i64 V))
        refine wp_region_quiet_then 6 #[true, true, true, true, true, true, false, false, false, false, false] (Ext _) (by kernel_rfl) (by kernel_rfl) (Ext.drawn _) ?_
        simp only [List.take_succ_cons, List.take_zero]
        repeat (first | go_big_quiet_skip | go_big_quiet_step (fail) | (refine BigFrame.wpQuiet_want rfl (fun K hK => ?_); apply Exists.intro; refine ⟨fun w2 h2 => ?_, ?_⟩; (next => (have g1 := Below.cells h2.below; have g2 := Below.frozens h2.below; (try simp only [World.size_alloc, World.size_setCell] at g1 g2); first | (go_simp; (go_at_call 44; refine h2.calls (HLs.out _))) | (simp [go_sem, ↓IntWalk.iteOmega, *]; done) | (simp [go_sem, ↓IntWalk.iteOmega, *]; rfl)))); (go_simp; refine hK _ ?_; clear hK K))
        refine wpQuiet_nil ?_
        intro w6 h6
        have hb6 := h6.below
        clear h6
        change wpAny _ _ _ _ 5 _ _ _
        have z6 := hb6.size
        have c6 := Below.cells hb6
        have f6 := Below.frozens hb6
        try simp only [World.size_alloc, World.size_setCell, World.size_drew] at z6 c6 f6
        have O6 := Lib.hid (own_three (own_below O5.out hb6) (b := w2.heap.size + 1) (by omega) (.int .i64 (n8 : Int)) (.int .i64 (S + x - y)) (.int .i64 V1))
        have P6 := Lib.hid (own_three (own_below P5.out hb6) (b := w2.heap.size + 1) (by omega) (.int .i64 (n8 : Int)) (.int .i64 (S + x - y)) (.int .i64 V1))
        have ga : w6.cell? ⟨w2.heap.size, 0, none⟩ = some (.int .i64 Z) := by simp [go_sem, ↓IntWalk.iteOmega, *]
        have gb : ∃ u, w6.cell? ⟨w2.heap.size, 1, none⟩ = some u := ⟨_, by simp [go_sem, ↓IntWalk.iteOmega, *]; rfl⟩
        have gc : ∀ o, w6.frozen? ⟨w2.heap.size, o, none⟩ = false := by intro o; simp [go_sem, ↓IntWalk.iteOmega, *]
        have gd : w6.cell? ⟨w2.heap.size + 1, 0, none⟩ = some (.int .i64 ((n8 : Int) + 1)) := by simp [go_sem, ↓IntWalk.iteOmega, *]
        have ge : w6.cell? ⟨w2.heap.size + 1, 1, none⟩ = some (.int .i64 (S + x)) := by simp [go_sem, ↓IntWalk.iteOmega, *]
        have gf : w6.cell? ⟨w2.heap.size + 1, 2, none⟩ = some (.int .i64 V) := by simp [go_sem, ↓IntWalk.iteOmega, *]
        have gg : ∀ o, w6.frozen? ⟨w2.heap.size + 1, o, none⟩ = false := by intro o; simp [go_sem, ↓IntWalk.iteOmega, *]
        have gh : w6.cell? ⟨w4.heap.size, 0, none⟩ = some (.int .i64 Z) := by simp [go_sem, ↓IntWalk.iteOmega, *]
        have gi : w6.cell? ⟨w4.heap.size, 1, none⟩ = some (.slice A8 n8 c8) := by simp [go_sem, ↓IntWalk.iteOmega, *]
        obtain ⟨gu, gb⟩ := gb
        have bel := HRb.out.1
        have B6 := Lib.hid (show Below w2.heap.size w3 w6 from (by repeat (first | (with_reducible exact Below.refl _ _) | ((with_reducible refine Below.alloc ?_ ?_ _); rotate_left; (next => ((try dsimp only); (try simp only [World.size_alloc, World.size_setCell, World.size_drew]); omega))) | ((with_reducible refine Below.setCell ?_ ?_ _); rotate_left; (next => ((try dsimp only); (try simp only [World.size_alloc, World.size_setCell, World.size_drew]); omega))) | (with_reducible refine Below.drew ?_) | ((with_reducible refine Below.trans ?_ (Below.mono hb6 ?_)); rotate_left; (next => ((try dsimp only); (try simp only [World.size_alloc, World.size_setCell, World.size_drew]); omega))) | ((with_reducible refine Below.trans ?_ (Below.mono hb5 ?_)); rotate_left; (next => ((try dsimp only); (try simp only [World.size_alloc, World.size_setCell, World.size_drew]); omega))) | ((with_reducible refine Below.trans ?_ (Below.mono hb4 ?_)); rotate_left; (next => ((try dsimp only); (try simp only [World.size_alloc, World.size_setCell, World.size_drew]); omega))) | (with_reducible exact bel))))
        have s6 : w4.heap.size + 1 ≤ w6.heap.size := by omega
        have d4 : ¬ w4.heap.size = w2.heap.size + 1 := by omega
        have d5 : ¬ w2.heap.size + 1 = w4.heap.size := by omega
        have d6 : ¬ w4.heap.size = w2.heap.size := by omega
        have d7 : ¬ w2.heap.size = w4.heap.size := by omega
        clear c4 f4 c5 f5 c6 f6 ka kb kc kd ke kf kg bel hb6 hb5 hb4 hce7 cx'
        (refine wpAny_take (i := 6) (v := ?_) rfl (by kernel_rfl) (by kernel_rfl) (by kernel_rfl) (fun _ _ _ h => h) (Or.inl ⟨by rfl, ?_⟩) ?_; (rotate_left; (intro w; go_simp; try with_reducible rfl)))
        (refine wpAny_take (i := 7) (v := ?_) rfl (by kernel_rfl) (by kernel_rfl) (by kernel_rfl) (fun _ _ _ h => h) (Or.inl ⟨by rfl, ?_⟩) ?_; (rotate_left; (intro w; go_simp; try with_reducible rfl)))
        (refine wpAny_take (i := 8) (v := ?_) rfl (by kernel_rfl) (by kernel_rfl) (by kernel_rfl) (fun _ _ _ h => h) (Or.inl ⟨by rfl, ?_⟩) ?_; (rotate_left; (intro w; go_simp; try with_reducible rfl)))
        refine wpAny_ready (rs := [9]) (by kernel_rfl) (by simp) ?_
        refine AllReady.cons rfl (fun K hK => ?_) AllReady.nil
        rw [if_pos (by rfl)]
        go_simp
        refine hK _ _ ?_
        clear hK K
        (refine wpAny_take (i := 10) (v := ?_) rfl (by kernel_rfl) (by kernel_rfl) (by kernel_rfl) (fun _ _ _ h => h) (Or.inl ⟨by rfl, ?_⟩) ?_; (rotate_left; (intro w; go_simp; try with_reducible rfl)))
        refine wpAny_done (by kernel_rfl) ?_ _
        go_wp2_with fail
        refine (HOf.out A8 c8 _ (Row.of_own O6.out)).mono ?_
        rintro e w7 ⟨rfl, hb7⟩
        have z7 := hb7.size
        have c7 := Below.cells hb7
        have f7 := Below.frozens hb7
        try simp only [World.size_alloc, World.size_setCell, World.size_drew] at z7 c7 f7
        have O7 := Lib.hid (own_set (own_set (own_mono ((own_below O6.out hb7).alloc (.cells #[.int .i64 (n8 : Int), .int .i64 (S + x - y), .int .i64 V1] 36)) (B' := w3.heap.size) (by omega)) (b := w2.heap.size) (by omega) 0 (.int .i64 Z)) (b := w2.heap.size) (by omega) 1 (.slice A8 n8 c8))
        have P7 := Lib.hid (own_set (own_set ((own_below P6.out hb7).alloc (.cells #[.int .i64 (n8 : Int), .int .i64 (S + x - y), .int .i64 V1] 36)) (b := w2.heap.size) (by omega) 0 (.int .i64 Z)) (b := w2.heap.size) (by omega) 1 (.slice A8 n8 c8))
        have bel := B6.out
        have B7 := Lib.hid (show Below w2.heap.size w3 (((w7.alloc (.cells #[.int .i64 (n8 : Int), .int .i64 (S + x - y), .int .i64 V1] 36)).setCell ⟨w2.heap.size, 0, none⟩ (.int .i64 Z)).setCell ⟨w2.heap.size, 1, none⟩ (.slice A8 n8 c8)) from (by repeat (first | (with_reducible exact Below.refl _ _) | ((with_reducible refine Below.alloc ?_ ?_ _); rotate_left; (next => ((try dsimp only); (try simp only [World.size_alloc, World.size_setCell, World.size_drew]); omega))) | ((with_reducible refine Below.setCell ?_ ?_ _); rotate_left; (next => ((try dsimp only); (try simp only [World.size_alloc, World.size_setCell, World.size_drew]); omega))) | (with_reducible refine Below.drew ?_) | ((with_reducible refine Below.trans ?_ (Below.mono hb7 ?_)); rotate_left; (next => ((try dsimp only); (try simp only [World.size_alloc, World.size_setCell, World.size_drew]); omega))) | (with_reducible exact bel))))
        clear hb7 bel
        go_wp2_with fail
        go_roundw
        case rel =>
          refine ⟨k + 1, L1 ++ [x], A8, n8, c8, S + x - y, V1, by omega, by go_num, HL'.out.2.2.2.2, hnZ, HL'.out.2.1, HL'.out.2.2.1, HL'.out.2.2.2.1, O7.out, ?_, ?_, ?_, ?_, ?_, ?_, ?_, B7.out, P7.out, ?_⟩
          · simp [go_sem, ↓IntWalk.iteOmega, *]
          · simp [go_sem, ↓IntWalk.iteOmega, *]
          · intro o; simp [go_sem, ↓IntWalk.iteOmega, *]
          · simp [go_sem, ↓IntWalk.iteOmega, *]
          · simp [go_sem, ↓IntWalk.iteOmega, *]
          · simp [go_sem, ↓IntWalk.iteOmega, *]
          · intro o; simp [go_sem, ↓IntWalk.iteOmega, *]
          · simp only [World.size_setCell, World.size_alloc]; omega
        case measure => simp [intOf]; omega
      · have hL' : pushd Z L x = L ++ [x] := by unfold pushd; rw [if_neg (by rw [hL]; exact hf)]
        have hb' := hLb.append (Btw.one x0 x1)
        have e1 : sumI (L ++ [x]) = S + x := by rw [sumI_append, hS]; simp [sumI]
        have e2 : sqI (L ++ [x]) = Q + x * x := by rw [sqI_append, hQ]; simp [sqI]
        obtain ⟨V, hV⟩ : ∃ V, Q + x * x = V := ⟨_, rfl⟩
        rw [hV] at e2
        have HA := Lib.hid (fun w => sadd_ok n7 S Q x (n7 + 1) (S + x) V hok (by omega) ⟨x0, x1⟩ rfl rfl hV w)
        have HOf := Lib.hid (fun A c w' (h : Row w' A (n7 + 1) (L ++ [x])) => sof_ok A (n7 + 1) c (L ++ [x]) (S + x) V w' h (by omega) hb' e1 e2)
        have HL' := Lib.hid (⟨hL', hb', e1, e2⟩ : _ ∧ _ ∧ _ ∧ _)
        have hn1 : (n7 : Int) + 1 ≤ Z := by omega
        have nf : ((n7 : Int) + 1 == n7) = false := by simp; omega
        clear hL' hb' e1 e2 hV hok hown hL hLb hS hQ hxv cx hcel bel hro hf
        go_wp2_with fail
        refine (HPs.out _ _ _ _ L x HIR.out hnZ HLb.out ⟨x0, x1⟩).mono ?_
        rintro e w4 ⟨A8, n8, c8, rfl, o8, hb4⟩
        rw [HL'.out.1] at o8
        obtain rfl : n8 = n7 + 1 := by have h1 := o8.1; rw [List.length_map, List.length_append, HL.out] at h1; simp at h1; omega
        have O8 := Lib.hid o8
        clear o8
        have z4 := hb4.size
        have c4 := Below.cells hb4
        have f4 := Below.frozens hb4
        try simp only [World.size_alloc, World.size_setCell, World.size_drew] at z4 c4 f4
        go_wp2_with fail
        refine (HA.out _).mono ?_
        rintro e w5 ⟨rfl, hb5⟩
        have z5 := hb5.size
        have c5 := Below.cells hb5
        have f5 := Below.frozens hb5
        try simp only [World.size_alloc, World.size_setCell, World.size_drew] at z5 c5 f5
        go_wp2_with fail
        have O5 := Lib.hid (own_three (own_below (O8.out.alloc _) hb5) (b := w2.heap.size + 1) (by omega) (.int .i64 ((n7 : Int) + 1)) (.int .i64 (S + x)) (.int .i64 V))
        have P5 := Lib.hid (own_three (own_below ((own_below HRb.out.2 hb4).alloc _) hb5) (b := w2.heap.size + 1) (by omega) (.int .i64 ((n7 : Int) + 1)) (.int .i64 (S + x)) (.int .i64 V))
        refine (HOf.out A8 c8 _ (Row.of_own O5.out)).mono ?_
        rintro e w7 ⟨rfl, hb7⟩
        have z7 := hb7.size
        have c7 := Below.cells hb7
        have f7 := Below.frozens hb7
        try simp only [World.size_alloc, World.size_setCell, World.size_drew] at z7 c7 f7
        have bel := HRb.out.1
        have O7 := Lib.hid (own_set (own_set (own_mono ((own_below O5.out hb7).alloc (.cells #[.int .i64 ((n7 : Int) + 1), .int .i64 (S + x), .int .i64 V] 36)) (B' := w3.heap.size) (by omega)) (b := w2.heap.size) (by omega) 0 (.int .i64 Z)) (b := w2.heap.size) (by omega) 1 (.slice A8 (n7 + 1) c8))
        have P7 := Lib.hid (own_set (own_set ((own_below P5.out hb7).alloc (.cells #[.int .i64 ((n7 : Int) + 1), .int .i64 (S + x), .int .i64 V] 36)) (b := w2.heap.size) (by omega) 0 (.int .i64 Z)) (b := w2.heap.size) (by omega) 1 (.slice A8 (n7 + 1) c8))
        have B7 := Lib.hid (show Below w2.heap.size w3 (((w7.alloc (.cells #[.int .i64 ((n7 : Int) + 1), .int .i64 (S + x), .int .i64 V] 36)).setCell ⟨w2.heap.size, 0, none⟩ (.int .i64 Z)).setCell ⟨w2.heap.size, 1, none⟩ (.slice A8 (n7 + 1) c8)) from (by repeat (first | (with_reducible exact Below.refl _ _) | ((with_reducible refine Below.alloc ?_ ?_ _); rotate_left; (next => ((try dsimp only); (try simp only [World.size_alloc, World.size_setCell, World.size_drew]); omega))) | ((with_reducible refine Below.setCell ?_ ?_ _); rotate_left; (next => ((try dsimp only); (try simp only [World.size_alloc, World.size_setCell, World.size_drew]); omega))) | (with_reducible refine Below.drew ?_) | ((with_reducible refine Below.trans ?_ (Below.mono hb7 ?_)); rotate_left; (next => ((try dsimp only); (try simp only [World.size_alloc, World.size_setCell, World.size_drew]); omega))) | ((with_reducible refine Below.trans ?_ (Below.mono hb5 ?_)); rotate_left; (next => ((try dsimp only); (try simp only [World.size_alloc, World.size_setCell, World.size_drew]); omega))) | ((with_reducible refine Below.trans ?_ (Below.mono hb4 ?_)); rotate_left; (next => ((try dsimp only); (try simp only [World.size_alloc, World.size_setCell, World.size_drew]); omega))) | (with_reducible exact bel))))
        clear hb4 hb5 hb7 bel
        go_wp2_with fail
        go_roundw
        case rel =>
          refine ⟨k + 1, L ++ [x], A8, n7 + 1, c8, S + x, V, by omega, by go_num, by rw [List.length_append, HL.out]; rfl, hn1, HL'.out.2.1, HL'.out.2.2.1, HL'.out.2.2.2, O7.out, ?_, ?_, ?_, ?_, ?_, ?_, ?_, B7.out, P7.out, ?_⟩
          · simp [go_sem, ↓IntWalk.iteOmega, *]
          · simp [go_sem, ↓IntWalk.iteOmega, *]
          · intro o; simp [go_sem, ↓IntWalk.iteOmega, *]
          · simp [go_sem, ↓IntWalk.iteOmega, *]
          · simp [go_sem, ↓IntWalk.iteOmega, *]
          · simp [go_sem, ↓IntWalk.iteOmega, *]
          · intro o; simp [go_sem, ↓IntWalk.iteOmega, *]
          · simp only [World.size_setCell, World.size_alloc]; omega
        case measure => simp [intOf]; omega
    · go_wp2_with fail
      go_ret
      exact ⟨rfl, HS.out.2.2.2.2.2.2.2.trans (bel.mono (by have := HB2.out.size; omega))⟩
end Go.Proofs.Ytlnagfmaiabhaaa
