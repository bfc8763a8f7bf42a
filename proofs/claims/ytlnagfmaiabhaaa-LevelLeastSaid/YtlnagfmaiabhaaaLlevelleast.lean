import Derived.Test.YtlnagfmaiabhaaaLw
import Derived.Test.YtlnagfmaiabhaaaPu2
import Derived.Test.YtlnagfmaiabhaaaAp
import Derived.Test.YtlnagfmaiabhaaaQM
set_option linter.unusedSimpArgs false
set_option linter.unusedVariables false
namespace Go.Proofs.Ytlnagfmaiabhaaa
open Go Go.RowKit
theorem rotp (l : List Int) (t : Nat) : (l.drop t ++ l.take t).Perm l := List.perm_append_comm.trans (by rw [List.take_append_drop])
theorem rotg (l : List Int) {t k n : Nat} (hn : l.length = n) (ht : t < n) (hk : k < n) : (l.drop t ++ l.take t).getD k 0 = l.getD ((k + t) % n) 0 := by
  by_cases h : k + t < n
  · rw [Nat.mod_eq_of_lt h]
    simp [List.getD, List.getElem?_append, List.getElem?_drop, show k < l.length - t by omega, Nat.add_comm, show t + k < l.length by omega]
  · have e : (k + t) % n = k + t - n := by rw [Nat.mod_eq_sub_mod (by omega), Nat.mod_eq_of_lt (by omega)]
    rw [e]
    simp only [List.getD, List.getElem?_append, List.length_drop, show ¬ k < l.length - t by omega, if_false, List.getElem?_take, show k - (l.length - t) < t by omega, if_true]
    rw [show k - (l.length - t) = k + t - n by omega]
theorem lfl_mono {n X L L' : Int} (hn : 0 ≤ n) (h0 : 0 ≤ L) (h : L ≤ L') : lfl n X L ≤ lfl n X L' := by
  have h1 : L * L ≤ L' * L' := Int.mul_le_mul h h h0 (by omega)
  have h2 := Int.mul_le_mul_of_nonneg_left h1 (Int.mul_nonneg hn hn)
  have e : ∀ L : Int, n * n * L * L = n * n * (L * L) := fun L => Int.mul_assoc _ _ _
  unfold lfl
  simp only [e]
  omega

set_option maxRecDepth 100000 in
set_option maxHeartbeats 16000000 in
theorem levelLeast_walk (a : Option Addr) (len cap : Nat) (l : List Int) (p q r t : Int) (w : World) (hin : InRow w a len cap l) (_ : (Lit.int .i64 p).wf = true) (_ : (Lit.int .i64 q).wf = true) (_ : (Lit.int .i64 r).wf = true) (_ : (Lit.int .i64 t).wf = true) :
    Calls Try.prog 9 #[.slice a len cap, .int .i64 p, .int .i64 q, .int .i64 r, .int .i64 t] w fun e w' =>
      e = .returned (.bool true) ∧ Below w.heap.size w w' := by
  obtain ⟨ys, n, S, Q, X, hy, hn, h1, hm, hb, hS, hQ, hX, ok, Xb⟩ := lev_pack l
  have b1 := within_bd p (n := 8388608) (by omega)
  have b2 := within_bd q (n := 8388608) (by omega)
  have b3 := within_bd r (n := 1073741825) (by omega)
  obtain ⟨P, e_P⟩ : ∃ z_, within p 8388608 = z_ := ⟨_, rfl⟩
  rw [e_P] at b1
  have HP := Lib.hid e_P
  clear e_P
  obtain ⟨M, e_M⟩ : ∃ z_, within q 8388608 = z_ := ⟨_, rfl⟩
  rw [e_M] at b2
  have HM := Lib.hid e_M
  clear e_M
  obtain ⟨T, e_T⟩ : ∃ z_, within r 1073741825 = z_ := ⟨_, rfl⟩
  rw [e_T] at b3
  have HT := Lib.hid e_T
  clear e_T
  have bd := ok.bd
  obtain ⟨N, hN⟩ : ∃ N, lfl n X (1 + P) = N := ⟨_, rfl⟩
  obtain ⟨N', hN'⟩ : ∃ N, lfl n X (1 + P + M) = N := ⟨_, rfl⟩
  have Nb := lfl_bd (n := n) (L := 1 + P) (by omega) Xb (by omega)
  have Nb' := lfl_bd (n := n) (L := 1 + P + M) (by omega) Xb (by omega)
  have NN := lfl_mono (n := n) (X := X) (L := 1 + P) (L' := 1 + P + M) (by omega) (by omega) (by omega)
  rw [hN] at Nb NN
  rw [hN'] at Nb' NN
  have D1 := late0_bd (n := n) (S := S) (T := T) (by omega) (by omega) (by omega)
  obtain ⟨k, hk⟩ := levR_ex Nb D1
  obtain ⟨m, hm2⟩ := levR_ex Nb' D1
  have km := LevR.anti Nb.1 NN hk hm2
  obtain ⟨R, hR⟩ : ∃ R : Nat, within t n = (R : Int) ∧ R < n := by
    have b1 := within_bd t (n := n) (by omega)
    obtain ⟨T, hT⟩ := Int.eq_ofNat_of_zero_le b1.1
    exact ⟨T, hT, by omega⟩
  obtain ⟨zs, hzs⟩ : ∃ zs, ys.drop R ++ ys.take R = zs := ⟨_, rfl⟩
  have hzp : zs.Perm ys := hzs ▸ rotp ys R
  have hzn : zs.length = n := by rw [hzp.length_eq, hn]
  have hzb : Btw 0 16777216 zs := fun x hx => hb x (hzp.mem_iff.1 hx)
  have hzk : ∀ k, k < n → zs.getD k 0 = ys.getD ((k + R) % n) 0 := fun k hk => hzs ▸ rotg ys hn hR.2 hk
  have hwin : ∀ w', InRow w' a len cap l → _ := fun w' h => window_any a len cap l w' h ys n hy hn
  have hlev : ∀ A c w', Row w' A n ys → _ := fun A c w' h => level_ok 64 (1 + P) T S Q X N k A n c ys w' h (by omega) (by omega) (by omega) hb (by omega) (by omega) hS hQ ok hX hN hk
  have hlev2 : ∀ A c w', Row w' A n ys → _ := fun A c w' h => level_ok 64 (1 + P + M) T S Q X N' m A n c ys w' h (by omega) (by omega) (by omega) hb (by omega) (by omega) hS hQ ok hX hN' hm2
  have hlev3 : ∀ A c w', Row w' A n zs → _ := fun A c w' h => level_ok 64 (1 + P) T S Q X N k A n c zs w' h (by omega) (by omega) (by omega) hzb (by omega) (by omega) ((sumI_perm hzp).trans hS) ((sqI_perm hzp).trans hQ) ok hX hN hk
  have HWin := Lib.hid hwin
  have HLev := Lib.hid hlev
  have HLev2 := Lib.hid hlev2
  have HLev3 := Lib.hid hlev3
  have HIn := Lib.hid hin
  have HZN := Lib.hid hzn
  have HZK := Lib.hid hzk
  have HR := Lib.hid hR
  obtain ⟨i0, hi, hz0, hz1, hz2⟩ := info_parts info_int
  have q1 : IntKind.i64.wrap (1 + P + M) = 1 + P + M := IntWalk.i64_in _ (by omega)
  have qa := alloc_cells
  have qf := alloc_frozens
  have Rn := hR.2
  clear hwin hlev hlev2 hlev3 hin hb hn hy hS hQ hX ok hN hN' hk hm2 D1 hzs hzp hzn hzb hzk hR NN Nb Nb'
  go_enter Try.func9, Try.ntmps9
  go_wp2_with fail
  refine (lbegun_ok _).mono ?_
  rintro e w1 ⟨rfl, hb1⟩
  have z1 := hb1.size
  have c1 := Below.cells hb1
  have f1 := Below.frozens hb1
  try simp only [World.size_alloc, World.size_setCell, World.size_drew] at z1 c1 f1
  go_wp2_with fail
  refine (HWin.out _ (HIn.out.below (by repeat (first | (with_reducible exact Below.refl _ _) | ((with_reducible refine Below.alloc ?_ ?_ _); rotate_left; (next => ((try dsimp only); (try simp only [World.size_alloc, World.size_setCell, World.size_drew]); omega))) | ((with_reducible refine Below.setCell ?_ ?_ _); rotate_left; (next => ((try dsimp only); (try simp only [World.size_alloc, World.size_setCell, World.size_drew]); omega))) | (with_reducible refine Below.drew ?_) | ((with_reducible refine Below.trans ?_ (Below.mono hb1 ?_)); rotate_left; (next => ((try dsimp only); (try simp only [World.size_alloc, World.size_setCell, World.size_drew]); omega))))))).mono ?_
  rintro e w2 ⟨A, c, rfl, hrA, hb2⟩
  have RA := Lib.hid hrA.1
  clear hrA
  have z2 := hb2.size
  have c2 := Below.cells hb2
  have f2 := Below.frozens hb2
  try simp only [World.size_alloc, World.size_setCell, World.size_drew] at z2 c2 f2
  go_wp2_with fail
  refine (within_any p 8388608 P _ (by omega) (by omega) HP.out).mono ?_
  rintro e w' ⟨rfl, rfl⟩
  go_wp2_with fail
  refine (within_any r 1073741825 T _ (by omega) (by omega) HT.out).mono ?_
  rintro e w' ⟨rfl, rfl⟩
  go_wp2_with fail
  obtain ⟨bk, off, rfl, ltb, hcr⟩ := RA.out.at (by omega)
  have HCr := Lib.hid hcr
  have B2 := Lib.hid (show Below w.heap.size w w2 from (by repeat (first | (with_reducible exact Below.refl _ _) | ((with_reducible refine Below.alloc ?_ ?_ _); rotate_left; (next => ((try dsimp only); (try simp only [World.size_alloc, World.size_setCell, World.size_drew]); omega))) | ((with_reducible refine Below.setCell ?_ ?_ _); rotate_left; (next => ((try dsimp only); (try simp only [World.size_alloc, World.size_setCell, World.size_drew]); omega))) | (with_reducible refine Below.drew ?_) | ((with_reducible refine Below.trans ?_ (Below.mono hb2 ?_)); rotate_left; (next => ((try dsimp only); (try simp only [World.size_alloc, World.size_setCell, World.size_drew]); omega))) | ((with_reducible refine Below.trans ?_ (Below.mono hb1 ?_)); rotate_left; (next => ((try dsimp only); (try simp only [World.size_alloc, World.size_setCell, World.size_drew]); omega))))))
  clear hcr hb1 hb2 c1 f1 c2 f2
  have K0 : ∀ T, (w2.alloc (.cells #[.int .i64 64, .slice (some ⟨bk, off, none⟩) n c] T)).heap.size = w2.heap.size + 1 := fun T => by simp
  obtain ⟨W, hW⟩ : ∃ W, (w2.alloc (.cells #[.int .i64 64, .slice (some ⟨bk, off, none⟩) n c] 73)).alloc (.cells #[.int .i64 64, .slice none 0 0] 73) = W := ⟨_, rfl⟩
  have ka : W.cell? ⟨w2.heap.size, 0, none⟩ = some (.int .i64 64) := by rw [← hW]; clear hW; simp [go_sem, ↓IntWalk.iteOmega, *]
  have kb : W.cell? ⟨w2.heap.size, 1, none⟩ = some (.slice (some ⟨bk, off, none⟩) n c) := by rw [← hW]; clear hW; simp [go_sem, ↓IntWalk.iteOmega, *]
  have kc : W.cell? ⟨w2.heap.size + 1, 0, none⟩ = some (.int .i64 64) := by rw [← hW]; clear hW; simp [go_sem, ↓IntWalk.iteOmega, *]
  have kd : W.cell? ⟨w2.heap.size + 1, 1, none⟩ = some (.slice none 0 0) := by rw [← hW]; clear hW; simp [go_sem, ↓IntWalk.iteOmega, *]
  have ke : ∀ o, W.frozen? ⟨w2.heap.size + 1, o, none⟩ = false := by intro o; rw [← hW]; clear hW; simp [go_sem, ↓IntWalk.iteOmega, *]
  have kf : Below w2.heap.size w2 W := by rw [← hW]; exact ((Below.refl _ _).alloc (Nat.le_refl _) _).alloc (by simp) _
  have kg : W.heap.size = w2.heap.size + 2 := by rw [← hW]; simp
  have HW := Lib.hid (⟨ka, kb, kc, kd, ke, kf, kg⟩ : _ ∧ _ ∧ _ ∧ _ ∧ _ ∧ _ ∧ _)
  have hWW := hW
  clear ka kb kc kd ke kf kg K0 hW qa qf
  rw [hWW]
  clear hWW
  go_loopw [35] (fun i wr => ∃ (k : Nat) (A7 : Option Addr) (c7 : Nat), k ≤ n ∧ i = .int .i64 k ∧ wr.ownsRow (w2.heap.size + 2) 3 1 (.slice A7 k c7) k ((zs.take k).map (Value.int .i64)) ∧
    wr.cell? ⟨w2.heap.size, 0, none⟩ = some (.int .i64 64) ∧ wr.cell? ⟨w2.heap.size, 1, none⟩ = some (.slice (some ⟨bk, off, none⟩) n c) ∧
    wr.cell? ⟨w2.heap.size + 1, 0, none⟩ = some (.int .i64 64) ∧ wr.cell? ⟨w2.heap.size + 1, 1, none⟩ = some (.slice A7 k c7) ∧ (∀ o, wr.frozen? ⟨w2.heap.size + 1, o, none⟩ = false) ∧ Below w2.heap.size w2 wr ∧ w2.heap.size + 2 ≤ wr.heap.size) (fun i _ => n - (intOf i).toNat)
  case atStart => exact ⟨0, none, 0, Nat.zero_le _, rfl, World.ownsRow_nil _ _ _ _, HW.out.1, HW.out.2.1, HW.out.2.2.1, HW.out.2.2.2.1, HW.out.2.2.2.2.1, HW.out.2.2.2.2.2.1, by have := HW.out.2.2.2.2.2.2; omega⟩
  case round =>
    obtain ⟨k, A7, c7, hk, rfl, hown, ka, kb, kc, kd, ke, bel, hsz⟩ := hrel
    by_cases hlt : k < n
    · obtain ⟨J, hJ⟩ : ∃ J, (k + R) % n = J := ⟨_, rfl⟩
      have hJn : J < n := by rw [← hJ]; exact Nat.mod_lt _ (by omega)
      have cy := (bel.cell (p := ⟨bk, off + J, none⟩) ltb).trans (HCr.out J hJn)
      obtain ⟨x, hx, M1⟩ := name_num cy
      have htk : List.take (k + 1) zs = List.take k zs ++ [x] := by rw [take_snoc _ (by have := HZN.out; omega), HZK.out k hlt, hJ, ← hx]
      have HTk := Lib.hid htk
      have e1 : IntKind.i64.wrap ((k : Int) + R) = (k : Int) + R := IntWalk.i64_in _ (by omega)
      have e3 : ((k + R : Nat) : Int) % n = (J : Int) := by rw [← hJ]; rfl
      have e4 : (k : Int) + R = ((k + R : Nat) : Int) := by omega
      have e5 : ((k : Int) + R) % n = (J : Int) := by rw [e4, e3]
      have e6 : ((k : Int) + R).tmod n = (J : Int) := by rw [e4, ← hJ]; rfl
      have e7 : IntKind.i64.wrap (J : Int) = (J : Int) := IntWalk.i64_in _ (by omega)
      have j1 : (0 : Int) ≤ J := by omega
      have j2 : (J : Int) < n := by omega
      have nn : ¬ (n : Int) = 0 := by omega
      have nn2 : ¬ n = 0 := by omega
      have M0 := kb
      have M2 := kd
      have M3 : ∀ o, (wr.alloc o).cell? ⟨w2.heap.size + 1, 1, none⟩ = some (.slice A7 k c7) := fun o => (World.cell?_alloc_lt _ _ _ (by show w2.heap.size + 1 < _; omega)).trans kd
      have HF := Lib.hid ke
      have HK := Lib.hid (⟨ka, kc⟩ : _ ∧ _)
      have OV := Lib.hid hown
      have BL := Lib.hid bel
      clear ka kb kc kd ke hown bel htk cy hx hJ e3 e4
      go_wp2_with fail
      refine wp_region_M (fun w' => w'.cell? ⟨w2.heap.size, 1, none⟩ = some (.slice (some ⟨bk, off, none⟩) n c) ∧ w'.cell? ⟨bk, off + J, none⟩ = some (.int .i64 x) ∧ w'.cell? ⟨w2.heap.size + 1, 1, none⟩ = some (.slice A7 k c7)) (fun j => j == 20) 21 rfl (by kernel_rfl) ?_
      have hH : wr.drew.cell? ⟨w2.heap.size, 1, none⟩ = some (.slice (some ⟨bk, off, none⟩) n c) ∧ wr.drew.cell? ⟨bk, off + J, none⟩ = some (.int .i64 x) ∧ wr.drew.cell? ⟨w2.heap.size + 1, 1, none⟩ = some (.slice A7 k c7) := ⟨M0, M1, M2⟩
      (refine wpAnyM_take (i := 0) (v := ?_) rfl (by kernel_rfl) (by kernel_rfl) (by kernel_rfl) (by kernel_rfl) (fun _ _ _ h => h) (Or.inl ⟨by rfl, ?_⟩) hH ?_; (rotate_left; (intro w hSw; (try dsimp only at hSw); go_simp; try with_reducible rfl)); (try simp only [Act.put, List.setIfInBounds_toArray, List.set_cons_zero, List.set_cons_succ]))
      (refine wpAnyM_take (i := 1) (v := ?_) rfl (by kernel_rfl) (by kernel_rfl) (by kernel_rfl) (by kernel_rfl) (fun _ _ _ h => h) (Or.inl ⟨by rfl, ?_⟩) hH ?_; (rotate_left; (intro w hSw; (try dsimp only at hSw); go_simp; try with_reducible rfl)); (try simp only [Act.put, List.setIfInBounds_toArray, List.set_cons_zero, List.set_cons_succ]))
      (refine wpAnyM_take (i := 2) (v := ?_) rfl (by kernel_rfl) (by kernel_rfl) (by kernel_rfl) (by kernel_rfl) (fun _ _ _ h => h) (Or.inl ⟨by rfl, ?_⟩) hH ?_; (rotate_left; (intro w hSw; (try dsimp only at hSw); go_simp; try with_reducible rfl)); (try simp only [Act.put, List.setIfInBounds_toArray, List.set_cons_zero, List.set_cons_succ]))
      (refine wpAnyM_take (i := 3) (v := ?_) rfl (by kernel_rfl) (by kernel_rfl) (by kernel_rfl) (by kernel_rfl) (fun _ _ _ h => h) (Or.inl ⟨by rfl, ?_⟩) hH ?_; (rotate_left; (intro w hSw; (try dsimp only at hSw); go_simp; try with_reducible rfl)); (try simp only [Act.put, List.setIfInBounds_toArray, List.set_cons_zero, List.set_cons_succ]))
      (refine wpAnyM_take (i := 4) (v := ?_) rfl (by kernel_rfl) (by kernel_rfl) (by kernel_rfl) (by kernel_rfl) (fun _ _ _ h => h) (Or.inl ⟨by rfl, ?_⟩) hH ?_; (rotate_left; (intro w hSw; (try dsimp only at hSw); go_simp; try with_reducible rfl)); (try simp only [Act.put, List.setIfInBounds_toArray, List.set_cons_zero, List.set_cons_succ]))
      (refine wpAnyM_take (i := 5) (v := ?_) rfl (by kernel_rfl) (by kernel_rfl) (by kernel_rfl) (by kernel_rfl) (fun _ _ _ h => h) (Or.inl ⟨by rfl, ?_⟩) hH ?_; (rotate_left; (intro w hSw; (try dsimp only at hSw); go_simp; try with_reducible rfl)); (try simp only [Act.put, List.setIfInBounds_toArray, List.set_cons_zero, List.set_cons_succ]))
      (refine wpAnyM_take (i := 6) (v := ?_) rfl (by kernel_rfl) (by kernel_rfl) (by kernel_rfl) (by kernel_rfl) (fun _ _ _ h => h) (Or.inl ⟨by rfl, ?_⟩) hH ?_; (rotate_left; (intro w hSw; (try dsimp only at hSw); go_simp; try with_reducible rfl)); (try simp only [Act.put, List.setIfInBounds_toArray, List.set_cons_zero, List.set_cons_succ]))
      (refine wpAnyM_take (i := 7) (v := ?_) rfl (by kernel_rfl) (by kernel_rfl) (by kernel_rfl) (by kernel_rfl) (fun _ _ _ h => h) (Or.inl ⟨by rfl, ?_⟩) hH ?_; (rotate_left; (intro w hSw; (try dsimp only at hSw); go_simp; try with_reducible rfl)); (try simp only [Act.put, List.setIfInBounds_toArray, List.set_cons_zero, List.set_cons_succ]))
      (refine wpAnyM_take (i := 8) (v := ?_) rfl (by kernel_rfl) (by kernel_rfl) (by kernel_rfl) (by kernel_rfl) (fun _ _ _ h => h) (Or.inl ⟨by rfl, ?_⟩) hH ?_; (rotate_left; (intro w hSw; (try dsimp only at hSw); go_simp; try with_reducible rfl)); (try simp only [Act.put, List.setIfInBounds_toArray, List.set_cons_zero, List.set_cons_succ]))
      (refine wpAnyM_take (i := 11) (v := ?_) rfl (by kernel_rfl) (by kernel_rfl) (by kernel_rfl) (by kernel_rfl) (fun _ _ _ h => h) (Or.inl ⟨by rfl, ?_⟩) hH ?_; (rotate_left; (intro w hSw; (try dsimp only at hSw); go_simp; try with_reducible rfl)); (try simp only [Act.put, List.setIfInBounds_toArray, List.set_cons_zero, List.set_cons_succ]))
      (refine wpAnyM_take (i := 12) (v := ?_) rfl (by kernel_rfl) (by kernel_rfl) (by kernel_rfl) (by kernel_rfl) (fun _ _ _ h => h) (Or.inl ⟨by rfl, ?_⟩) hH ?_; (rotate_left; (intro w hSw; (try dsimp only at hSw); go_simp; try with_reducible rfl)); (try simp only [Act.put, List.setIfInBounds_toArray, List.set_cons_zero, List.set_cons_succ]))
      (refine wpAnyM_take (i := 13) (v := ?_) rfl (by kernel_rfl) (by kernel_rfl) (by kernel_rfl) (by kernel_rfl) (fun _ _ _ h => h) (Or.inl ⟨by rfl, ?_⟩) hH ?_; (rotate_left; (intro w hSw; (try dsimp only at hSw); go_simp; try with_reducible rfl)); (try simp only [Act.put, List.setIfInBounds_toArray, List.set_cons_zero, List.set_cons_succ]))
      refine wpAnyM_one (i := 9) (by kernel_rfl) rfl (fun K hK => ?_)
      go_simp
      refine (within_any t n R _ (by omega) (by omega) HR.out.1).mono ?_
      rintro e w' ⟨rfl, rfl⟩
      go_wp2_with fail
      refine hK _ _ (fun _ => hH) ?_
      clear hK K
      (refine wpAnyM_take (i := 10) (v := ?_) rfl (by kernel_rfl) (by kernel_rfl) (by kernel_rfl) (by kernel_rfl) (fun _ _ _ h => h) (Or.inl ⟨by rfl, ?_⟩) hH ?_; (rotate_left; (intro w hSw; (try dsimp only at hSw); go_simp; try with_reducible rfl)); (try simp only [Act.put, List.setIfInBounds_toArray, List.set_cons_zero, List.set_cons_succ]))
      (refine wpAnyM_take (i := 14) (v := ?_) rfl (by kernel_rfl) (by kernel_rfl) (by kernel_rfl) (by kernel_rfl) (fun _ _ _ h => h) (Or.inl ⟨by rfl, ?_⟩) hH ?_; (rotate_left; (intro w hSw; (try dsimp only at hSw); go_simp; try with_reducible rfl)); (try simp only [Act.put, List.setIfInBounds_toArray, List.set_cons_zero, List.set_cons_succ]))
      (refine wpAnyM_take (i := 15) (v := ?_) rfl (by kernel_rfl) (by kernel_rfl) (by kernel_rfl) (by kernel_rfl) (fun _ _ _ h => h) (Or.inl ⟨by rfl, ?_⟩) hH ?_; (rotate_left; (intro w hSw; (try dsimp only at hSw); go_simp; try with_reducible rfl)); (try simp only [Act.put, List.setIfInBounds_toArray, List.set_cons_zero, List.set_cons_succ]))
      (refine wpAnyM_take (i := 16) (v := ?_) rfl (by kernel_rfl) (by kernel_rfl) (by kernel_rfl) (by kernel_rfl) (fun _ _ _ h => h) (Or.inl ⟨by rfl, ?_⟩) hH ?_; (rotate_left; (intro w hSw; (try dsimp only at hSw); go_simp; try with_reducible rfl)); (try simp only [Act.put, List.setIfInBounds_toArray, List.set_cons_zero, List.set_cons_succ]))
      refine wpAnyM_one (i := 17) (by kernel_rfl) rfl (fun K hK => ?_)
      go_simp
      have al : ∀ p, p.block < wr.heap.size → ((wr.alloc (.cells #[.int .i64 x] 3)).drew).cell? p = wr.cell? p := fun p hp => World.cell?_alloc_lt _ _ _ hp
      refine hK _ _ (fun _ => ⟨(al _ (by show w2.heap.size < _; omega)).trans M0, (al _ (by show bk < _; omega)).trans M1, (al _ (by show w2.heap.size + 1 < _; omega)).trans M2⟩) ?_
      clear hK K
      refine wpAnyM_one (i := 18) (by kernel_rfl) rfl (fun K hK => ?_)
      refine step_append_lies _ (by rfl) _ _ _ (by rfl) (w2.heap.size + 2) 3 i0 _ 1 8 Try.underlying32 hi hz0 hz1 hz2 rfl (by omega) _ k ((List.take k zs).map (Value.int .i64)) (by rfl) ((OV.out.alloc _).drew)
        ⟨wr.heap.size, 0, none⟩ 1 1 [.int .i64 x] (by rfl) (by rfl) (World.news_of_block (cs := #[.int .i64 x]) (t := 3) (fr := (0, 0)) (heap_alloc_new wr _)) (app1_one _ _)
        (by omega) (by unfold maxLen; omega) (by omega) (by simp; omega) (wr.heap.size + 1) (by simp) ?_
      intro gg cap' wq ownq grq atq ltq
      have hnb : ∀ b, b < w2.heap.size + 2 → wq.heap[b]? = wr.heap[b]? := fun b hb => (grq.block b (by simp; omega) (fun e => by have := (OV.out.lt _ e.symm).1; omega)).trans (Below.heap_alloc wr _ b (by omega))
      have m0 : wq.cell? ⟨w2.heap.size, 1, none⟩ = some (.slice (some ⟨bk, off, none⟩) n c) := (World.cell?_of_block (hnb w2.heap.size (by omega))).trans M0
      have m1 : wq.cell? ⟨bk, off + J, none⟩ = some (.int .i64 x) := (World.cell?_of_block (hnb bk (by omega))).trans M1
      have m2 : wq.cell? ⟨w2.heap.size + 1, 1, none⟩ = some (.slice A7 k c7) := (World.cell?_of_block (hnb (w2.heap.size + 1) (by omega))).trans M2
      have m3 : wq.cell? ⟨w2.heap.size, 0, none⟩ = some (.int .i64 64) := (World.cell?_of_block (hnb w2.heap.size (by omega))).trans HK.out.1
      have m5 : wq.cell? ⟨w2.heap.size + 1, 0, none⟩ = some (.int .i64 64) := (World.cell?_of_block (hnb (w2.heap.size + 1) (by omega))).trans HK.out.2
      have m4 : ∀ o, wq.frozen? ⟨w2.heap.size + 1, o, none⟩ = false := fun o => (World.frozen?_of_block (hnb (w2.heap.size + 1) (by omega))).trans (HF.out o)
      have ownq2 : wq.ownsRow (w2.heap.size + 2) 3 1 (.slice (some ⟨gg, 0, none⟩) (k + 1) cap') (k + 1) ((List.take (k + 1) zs).map (Value.int .i64)) := by rw [HTk.out]; simpa [List.map_append, List.map_take] using ownq
      have OQ := Lib.hid (own_set ownq2 (b := w2.heap.size + 1) (by omega) 1 (.slice (some ⟨gg, 0, none⟩) (k + 1) cap'))
      have BQ := Lib.hid (show Below w2.heap.size w2 (wq.setCell ⟨w2.heap.size + 1, 1, none⟩ (.slice (some ⟨gg, 0, none⟩) (k + 1) cap')) from ((((BL.out.alloc (by omega) _).drew).grown grq (by simp; omega) (fun g e => by have := (OV.out.lt g e).1; omega)).setCell (p := ⟨w2.heap.size + 1, 1, none⟩) (Nat.le_succ _) _))
      have zq := grq.size
      simp only [World.size_alloc, World.size_drew] at zq
      refine hK _ _ (fun _ => ⟨m0, m1, m2⟩) ?_
      clear hK K hnb ownq ownq2 grq atq al
      have hQ : wq.cell? ⟨w2.heap.size, 1, none⟩ = some (.slice (some ⟨bk, off, none⟩) n c) ∧ wq.cell? ⟨bk, off + J, none⟩ = some (.int .i64 x) ∧ wq.cell? ⟨w2.heap.size + 1, 1, none⟩ = some (.slice A7 k c7) := ⟨m0, m1, m2⟩
      (refine wpAnyM_take (i := 19) (v := ?_) rfl (by kernel_rfl) (by kernel_rfl) (by kernel_rfl) (by kernel_rfl) (fun _ _ _ h => h) (Or.inl ⟨by rfl, ?_⟩) hQ ?_; (rotate_left; (intro w hSw; (try dsimp only at hSw); go_simp; try with_reducible rfl)); (try simp only [Act.put, List.setIfInBounds_toArray, List.set_cons_zero, List.set_cons_succ]))
      refine wpAnyM_one (i := 20) (by kernel_rfl) rfl (fun K hK => ?_)
      go_simp
      refine hK _ _ (fun h => by cases h) ?_
      clear hK K
      refine wpAnyM_done (by kernel_rfl) ?_ _
      go_wp2_with fail
      go_roundw
      case rel =>
        refine ⟨k + 1, some ⟨gg, 0, none⟩, cap', by omega, by go_num, OQ.out, ?_, ?_, ?_, ?_, ?_, BQ.out, ?_⟩
        · simp [go_sem, *]
        · simp [go_sem, *]
        · simp [go_sem, *]
        · simp [go_sem, *]
        · intro o; simp [go_sem, *]
        · simp only [World.size_setCell]; omega
      case measure => simp [intOf]; omega
    · obtain rfl : n = k := by omega
      rw [List.take_of_length_le (by have := HZN.out; omega)] at hown
      have R7 := Lib.hid (Row.of_own hown)
      have BL := Lib.hid bel
      clear hown bel
      have hbw : Below w.heap.size w wr := B2.out.trans (BL.out.mono B2.out.size)
      go_wp2_with fail
      refine (HLev.out _ _ _ (RA.out.below BL.out)).mono ?_
      rintro e w3 ⟨rfl, hb3⟩
      have z3 := hb3.size
      have c3 := Below.cells hb3
      have f3 := Below.frozens hb3
      try simp only [World.size_alloc, World.size_setCell, World.size_drew] at z3 c3 f3
      go_wp2_with fail
      have R3 := Lib.hid ((RA.out.below BL.out).below hb3)
      have S3 := Lib.hid (R7.out.below hb3)
      refine wp_region_quiet_all (Ext _) (by kernel_rfl) (by kernel_rfl) (Ext.drawn _) ?_
      repeat (first | go_big_quiet_skip | go_big_quiet_step (fail) | (refine BigFrame.wpQuiet_want rfl (fun K hK => ?_); apply Exists.intro; refine ⟨fun w2 h2 => ?_, ?_⟩; (next => (have g1 := Below.cells h2.below; have g2 := Below.frozens h2.below; (try simp only [World.size_alloc, World.size_setCell] at g1 g2); first | (go_simp; (first | (go_at_call 21; refine h2.calls (same_below (within_any q 8388608 M _ (by omega) (by omega) HM.out))) | (go_at_call 52; refine h2.calls (HLev2.out _ _ _ (R3.out.below h2.below))))) | (simp [go_sem, ↓IntWalk.iteOmega, *]; done) | (simp [go_sem, ↓IntWalk.iteOmega, *]; rfl)))); (go_simp; refine hK _ ?_; clear hK K))
      refine wpQuiet_nil ?_
      intro w4 h4
      have hb4 := h4.below
      clear h4
      have z4 := hb4.size
      have c4 := Below.cells hb4
      have f4 := Below.frozens hb4
      try simp only [World.size_alloc, World.size_setCell, World.size_drew] at z4 c4 f4
      go_wp2_with fail
      refine (HLev3.out _ _ _ (S3.out.below hb4)).mono ?_
      rintro e w5 ⟨rfl, hb5⟩
      have z5 := hb5.size
      have c5 := Below.cells hb5
      have f5 := Below.frozens hb5
      try simp only [World.size_alloc, World.size_setCell, World.size_drew] at z5 c5 f5
      go_wp2_with fail
      go_ret
      exact ⟨by simp [km], hbw.trans ((hb3.mono (hbw.size)).trans ((hb4.mono (Nat.le_trans hbw.size z3)).trans (hb5.mono (Nat.le_trans hbw.size (Nat.le_trans z3 z4)))))⟩
end Go.Proofs.Ytlnagfmaiabhaaa
