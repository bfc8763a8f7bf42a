/-
  slices.Reverse of a row of bytes of the call's own.
-/
import Derived.Test.YtlnagfmaiabhaaaXo
import Derived.Test.YtlnagfmaiabhaaaQA
import Derived.Deep.LoopGhost
set_option linter.unusedSimpArgs false
set_option linter.unusedVariables false
namespace Go.Proofs.Ytlnagfmaiabhaaa
open Go Go.RowKit
def rvk (l : List Nat) (n i k : Nat) : Nat := if k < i ∨ n - i ≤ k then l.getD (n - 1 - k) 0 else l.getD k 0
theorem rvk_step {l : List Nat} {n i : Nat} {cur : Array Value} (hi : i < n - 1 - i) (hs : n ≤ cur.size) (h : ∀ k, k < n → cur[k]? = some (bv (rvk l n i k))) :
    ∀ k, k < n → ((cur.setIfInBounds i (bv (rvk l n i (n - 1 - i)))).setIfInBounds (n - 1 - i) (bv (rvk l n i i)))[k]? = some (bv (rvk l n (i + 1) k)) := by
  intro k hk
  rw [Array.getElem?_setIfInBounds, Array.size_setIfInBounds]
  by_cases c1 : n - 1 - i = k
  · rw [if_pos c1, if_pos (by omega)]
    subst c1
    congr 2
    unfold rvk
    rw [if_neg (by omega), if_pos (by omega)]
    congr 1; omega
  · rw [if_neg c1, Array.getElem?_setIfInBounds]
    by_cases c2 : i = k
    · rw [if_pos c2, if_pos (by omega)]
      subst c2
      congr 2
      unfold rvk
      rw [if_neg (by omega), if_pos (by omega)]
    · rw [if_neg c2, h k hk]
      congr 2
      unfold rvk
      by_cases d : k < i ∨ n - i ≤ k
      · rw [if_pos d, if_pos (by omega)]
      · rw [if_neg d, if_neg (by omega)]
theorem rvk_end {l : List Nat} {n i : Nat} {cur : Array Value} (hl : l.length = n) (hi : ¬ (i : Int) < n - 1 - i) (hi2 : 2 * i ≤ n) (h : ∀ k, k < n → cur[k]? = some (bv (rvk l n i k))) : cur.toList.take (n * 1) = l.reverse.map bv := by
  apply List.ext_getElem?
  intro k
  rw [List.getElem?_take]
  by_cases c : k < n
  · rw [if_pos (by omega)]
    have := h k c
    rw [Array.getElem?_toList, this, List.getElem?_map, List.getElem?_reverse (by omega)]
    have e : rvk l n i k = l.getD (n - 1 - k) 0 := by
      unfold rvk
      by_cases d : k < i ∨ n - i ≤ k
      · rw [if_pos d]
      · rw [if_neg d]; congr 1; omega
    rw [e, hl, List.getElem?_eq_getElem (by omega)]
    simp [List.getD, show n - 1 - k < l.length by omega]
  · rw [if_neg (by omega), List.getElem?_map, List.getElem?_eq_none (by simp; omega)]; rfl

theorem set_blk2 {w : World} {b : Nat} {cs : Array Value} {T : TypeId} {fz : Nat × Nat} (h : w.heap[b]? = some (.cells cs T fz)) (o : Nat) (v : Value) : (w.setCell ⟨b, o, none⟩ v).heap[b]? = some (.cells (cs.setIfInBounds o v) T fz) := by
  simp [World.setCell, Array.getElem?_modify, h]
set_option maxHeartbeats 4000000 in
theorem reverse_ok (A : Option Addr) (n c base : Nat) (l : List Nat) (w : World) (own : w.ownsRow base 5 1 (.slice A n c) n (l.map bv)) (hn : n ≤ 1000000) :
    Calls Try.prog 69 #[.slice A n c] w fun e w' => e = .returned (.tuple #[]) ∧ w'.ownsRow base 5 1 (.slice A n c) n (l.reverse.map bv) ∧ Below base w w' := by
  have hl : l.length = n := by have := own.1; simpa using this
  rcases own.2 with ⟨h, h0⟩ | ⟨g, c', cur, h, hbg, hg, hnc, hcm, hcs, htk⟩
  · have own' := own
    injection h with hA hn' hc'
    subst hA
    subst hn'
    obtain rfl : l = [] := List.eq_nil_of_length_eq_zero hl
    have HO := Lib.hid own
    clear own own' h0
    go_enter Try.func69, Try.ntmps69
    go_wp2_with fail
    go_loopg [2, 3] 0 (fun _ s2 s3 wr => s2 = .int .i64 0 ∧ s3 = .int .i64 (-1) ∧ wr = w)
    case atStart => exact ⟨rfl, rfl, rfl⟩
    case round =>
      obtain ⟨rfl, rfl, rfl⟩ := hrel
      go_wp2_with fail
      go_end0
      exact ⟨rfl, HO.out, Below.refl _ _⟩
  · injection h with hA _ hc
    subst hA hc
    have hcur : ∀ k, k < n → cur[k]? = some (bv (rvk l n 0 k)) := fun k hk => by
      have h1 : (cur.toList.take (n * 1))[k]? = some (bv (l.getD k 0)) := by
        rw [htk]
        simp [List.getD, List.getElem?_eq_getElem (show k < l.length by omega)]
      rw [List.getElem?_take] at h1
      rw [if_pos (by omega)] at h1
      have : rvk l n 0 k = l.getD k 0 := by unfold rvk; rw [if_neg (by omega)]
      rw [this]
      simpa using h1
    have HC := Lib.hid hcur
    have HG := Lib.hid hg
    have HL := Lib.hid hl
    have HX := Lib.hid (⟨hbg, hnc, hcm, hcs⟩ : base ≤ g ∧ n ≤ c ∧ c ≤ maxLen ∧ cur.size = c * 1)
    clear hcur hg htk own hl hcs hcm
    go_enter Try.func69, Try.ntmps69
    go_wp2_with fail
    go_loopg [2, 3] n (fun m s2 s3 wr => ∃ (i : Nat) (jz : Int) (cu : Array Value), s2 = .int .i64 i ∧ s3 = .int .i64 jz ∧ jz = (n : Int) - 1 - i ∧ 2 * i ≤ n ∧ n - i ≤ m ∧ wr.heap[g]? = some (.cells cu 5 (0, 0)) ∧ cu.size = c * 1 ∧ (∀ k, k < n → cu[k]? = some (bv (rvk l n i k))) ∧ Below base w wr)
    case atStart => exact ⟨0, (n : Int) - 1, cur, rfl, rfl, by omega, by omega, by omega, HG.out, HX.out.2.2.2, HC.out, Below.refl _ _⟩
    case round =>
      obtain ⟨i, jz, cu, rfl, rfl, hj, hi2, hm, hgg, hcs, hcu, bel⟩ := hrel
      by_cases hlt : (i : Int) < jz
      · obtain ⟨J, hJ⟩ : ∃ J : Nat, n - 1 - i = J := ⟨_, rfl⟩
        have hjJ : jz = (J : Int) := by omega
        have hij : i < n - 1 - i := by omega
        have hJn : J < n := by omega
        have hin : i < n := by omega
        have hst := rvk_step hij (by rw [hcs]; omega) hcu
        rw [hJ] at hst
        subst hjJ
        obtain ⟨X, hX⟩ : ∃ X, rvk l n i J = X := ⟨_, rfl⟩
        obtain ⟨Y, hY⟩ : ∃ X, rvk l n i i = X := ⟨_, rfl⟩
        obtain ⟨d1, e1⟩ := block_cells hgg
        have ci : wr.cell? ⟨g, i, none⟩ = some (.int .u8 (Y : Int)) := by rw [d1, hcu i hin, hY]
        have cj : wr.cell? ⟨g, J, none⟩ = some (.int .u8 (X : Int)) := by rw [d1, hcu J hJn, hX]
        have fi := e1 i
        have fj := e1 J
        rw [hX, hY] at hst
        have nij : ¬ i = J := by omega
        have nji : ¬ J = i := by omega
        have HSt := Lib.hid hst
        have HGG := Lib.hid hgg
        have HCS := Lib.hid hcs
        have HB := Lib.hid bel
        have HJ := Lib.hid hj
        have HHJ := Lib.hid hJ
        have G1 := Lib.hid (set_blk2 (set_blk2 (w := wr.drew) HGG.out i (.int .u8 (X : Int))) J (.int .u8 (Y : Int)))
        have g2 := set_blk2 (set_blk2 (w := wr.drew) HGG.out J (.int .u8 (Y : Int))) i (.int .u8 (X : Int))
        rw [Array.setIfInBounds_comm _ _ (show J ≠ i by omega)] at g2
        have G2 := Lib.hid g2
        have B1 := Lib.hid (((bel.drew).setCell (p := ⟨g, i, none⟩) HX.out.1 (.int .u8 (X : Int))).setCell (p := ⟨g, J, none⟩) HX.out.1 (.int .u8 (Y : Int)))
        have B2 := Lib.hid (((bel.drew).setCell (p := ⟨g, J, none⟩) HX.out.1 (.int .u8 (Y : Int))).setCell (p := ⟨g, i, none⟩) HX.out.1 (.int .u8 (X : Int)))
        clear g2
        have i0 : (0 : Int) ≤ i := by omega
        have i1 : (i : Int) < n := by omega
        have j0 : (0 : Int) ≤ J := by omega
        have j1 : (J : Int) < n := by omega
        clear hst hgg hcs hcu bel d1 e1 hj hJ
        go_wp2_with fail
        go_region
        all_goals
          go_wp2_with fail
          go_roundg (n - (i + 1))
        all_goals first
          | (case measure => omega)
          | (case rel => exact ⟨i + 1, (J : Int) - 1, _, by go_num, by go_num, by have := HJ.out; omega, by omega, Nat.le_refl _, G1.out, by rw [Array.size_setIfInBounds, Array.size_setIfInBounds]; exact HCS.out, HSt.out, B1.out⟩)
          | (case rel => exact ⟨i + 1, (J : Int) - 1, _, by go_num, by go_num, by have := HJ.out; omega, by omega, Nat.le_refl _, G2.out, by rw [Array.size_setIfInBounds, Array.size_setIfInBounds]; exact HCS.out, HSt.out, B2.out⟩)
      · have HE := Lib.hid (rvk_end HL.out (by omega) hi2 hcu)
        have HGG := Lib.hid hgg
        clear hcu hgg
        go_wp2_with fail
        go_end0
        exact ⟨rfl, ⟨by simp [HL.out], .inr ⟨g, c, cu, rfl, HX.out.1, HGG.out, HX.out.2.1, HX.out.2.2.1, hcs, by rw [HE.out]; simp⟩⟩, bel⟩
end Go.Proofs.Ytlnagfmaiabhaaa
