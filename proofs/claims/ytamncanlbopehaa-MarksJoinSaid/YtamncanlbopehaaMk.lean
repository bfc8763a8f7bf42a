/-
  The walks of package marks (Check, At) over turns that alternate: what stands in memory is a list of times.
-/
import Derived.Test.YtamncanlbopehaaLs
import Derived.Test.YtamncanlbopehaaCm
set_option linter.unusedSimpArgs false
set_option linter.unusedVariables false
namespace Go.Proofs.Ytamncanlbopehaa
open Go.RowKit

/-- The time before the k-th turn. -/
def bef (us : List Int) (k : Nat) : Int := if k = 0 then 0 else us.getD (k - 1) 0
theorem bef_succ (us : List Int) (k : Nat) : bef us (k + 1) = us.getD k 0 := by simp [bef]
/-- Times that do not fall, from 0 up to e. -/
def Mono (us : List Int) (e : Int) : Prop := 0 ≤ e ∧ ∀ k, k < us.length → bef us k ≤ us.getD k 0 ∧ us.getD k 0 ≤ e
/-- A turn suspects, or trusts, by turns. -/
def par (k : Nat) : Bool := k % 2 == 0
theorem par_succ (k : Nat) : par (k + 1) = !par k := by
  unfold par
  rcases Nat.mod_two_eq_zero_or_one k with h | h
  · rw [show (k + 1) % 2 = 1 by omega, h]; rfl
  · rw [show (k + 1) % 2 = 0 by omega, h]; rfl
/-- The slice with address A and n turns has the times l. -/
def TRow (w : World) (A : Option Addr) (n : Nat) (l : List Int) : Prop :=
  l.length = n ∧ (0 < n → ∃ b off, A = some ⟨b, off, none⟩ ∧ b < w.heap.size ∧ ∀ k, k < n → w.cell? ⟨b, off + k * 2, none⟩ = some (.int .i64 (l.getD k 0)) ∧ w.cell? ⟨b, off + k * 2 + 1, none⟩ = some (.bool (par k)))
theorem TRow.below {w w' : World} {A : Option Addr} {n : Nat} {l : List Int} (h : TRow w A n l) (hb : Below w.heap.size w w') : TRow w' A n l :=
  ⟨h.1, fun hn => by
    obtain ⟨b, off, e, lt, hc⟩ := h.2 hn
    exact ⟨b, off, e, Nat.lt_of_lt_of_le lt hb.size, fun k hk => ⟨(hb.cell (p := ⟨b, off + k * 2, none⟩) lt).trans (hc k hk).1, (hb.cell (p := ⟨b, off + k * 2 + 1, none⟩) lt).trans (hc k hk).2⟩⟩⟩

set_option maxHeartbeats 2000000 in
theorem mcheck_ok (A : Option Addr) (n c : Nat) (l : List Int) (e : Int) (w : World) (h : TRow w A n l) (hm : n ≤ 64) (hl : Mono l e) (he : e ≤ 1073741824) :
    Calls Try.prog 45 #[.slice A n c, .int .i64 e] w fun x w' => x = .returned (.int .i64 0) ∧ Below w.heap.size w w' := by
  obtain ⟨e0, hmo⟩ := hl
  have hlen := h.1
  rw [hlen] at hmo
  have HM := Lib.hid hmo
  have HT := Lib.hid h
  clear h hmo hlen
  go_enter Try.func45, Try.ntmps45
  go_wp2_with fail
  go_loopw [5, 6, 20] (fun la is i wr => ∃ (k : Nat) (L : Int), k ≤ n ∧ i = .int .i64 k ∧ la = .int .i64 L ∧ bef l k = L ∧ is = .bool (!par k) ∧ Below w.heap.size w wr) (fun _ _ i _ => n - (intOf i).toNat)
  case atStart => exact ⟨0, 0, Nat.zero_le _, rfl, rfl, rfl, rfl, Below.refl _ _⟩
  case round =>
    obtain ⟨k, L, hk, rfl, rfl, hL, rfl, bel⟩ := hrel
    have hsz := bel.size
    by_cases hlt : k < n
    · obtain ⟨b, off, rfl, ltA, hc⟩ := HT.out.2 (by omega)
      have hm2 := HM.out k hlt
      rw [hL] at hm2
      have hs := bef_succ l k
      have h1 := (bel.cell (p := ⟨b, off + k * 2, none⟩) ltA).trans (hc k hlt).1
      have h2 := (bel.cell (p := ⟨b, off + k * 2 + 1, none⟩) ltA).trans (hc k hlt).2
      obtain ⟨x, hx⟩ : ∃ x, l.getD k 0 = x := ⟨_, rfl⟩
      rw [hx] at hm2 h1 hs
      have HS := Lib.hid hs
      obtain ⟨m1, m2⟩ := hm2
      clear hc hx hs hL
      have hp : (par k == !par k) = false := by cases par k <;> rfl
      go_wp2_with fail
      refine wp_region_quiet_all (Ext _) (by kernel_rfl) (by kernel_rfl) (Ext.drawn _) ?_
      repeat (first | go_big_quiet_skip | go_big_quiet_step (fail) | (refine BigFrame.wpQuiet_want rfl (fun K hK => ?_); apply Exists.intro; refine ⟨fun w2 h2 => ?_, ?_⟩; (next => (have g1 := Below.cells h2.below; have g2 := Below.frozens h2.below; (try simp only [World.size_alloc, World.size_setCell] at g1 g2); first | (go_simp; (fail)) | (simp [go_sem, ↓IntWalk.iteOmega, *]; done) | (simp [go_sem, ↓IntWalk.iteOmega, *]; rfl)))); (go_simp; refine hK _ ?_; clear hK K))
      refine wpQuiet_nil ?_
      intro w1 h1
      have hb1 := h1.below
      clear h1
      have z1 := hb1.size
      have c1 := Below.cells hb1
      have f1 := Below.frozens hb1
      try simp only [World.size_alloc, World.size_setCell, World.size_drew] at z1 c1 f1
      go_wp2_with fail
      go_roundw
      case rel => exact ⟨k + 1, x, by omega, by go_num, rfl, HS.out, by rw [par_succ]; simp, (by repeat (first | (with_reducible exact Below.refl _ _) | ((with_reducible refine Below.alloc ?_ ?_ _); rotate_left; (next => ((try dsimp only); (try simp only [World.size_alloc, World.size_setCell, World.size_drew]); omega))) | ((with_reducible refine Below.setCell ?_ ?_ _); rotate_left; (next => ((try dsimp only); (try simp only [World.size_alloc, World.size_setCell, World.size_drew]); omega))) | (with_reducible refine Below.drew ?_) | ((with_reducible refine Below.trans ?_ (Below.mono hb1 ?_)); rotate_left; (next => ((try dsimp only); (try simp only [World.size_alloc, World.size_setCell, World.size_drew]); omega))) | (with_reducible exact bel)))⟩
      case measure => simp [intOf]; omega
    · obtain rfl : n = k := by omega
      go_wp2_with fail
      go_ret
      exact ⟨rfl, bel⟩

set_option maxHeartbeats 2000000 in
/-- What stands at time t: as many turns c as there were by then. -/
theorem mat_ok (A : Option Addr) (n c0 c : Nat) (l : List Int) (e t : Int) (w : World) (h : TRow w A n l) (hm : n ≤ 64) (hl : Mono l e) (he : e ≤ 1073741824) (ht : 0 ≤ t ∧ t ≤ e) (hc : c ≤ n) (h1 : ∀ j, j < c → l.getD j 0 ≤ t) (h2 : c < n → t < l.getD c 0) :
    Calls Try.prog 27 #[.slice A n c0, .int .i64 e, .int .i64 t] w fun x w' => x = .returned (.tuple #[.bool (!par c), .int .i64 0]) ∧ Below w.heap.size w w' := by
  have HC := Lib.hid (mcheck_ok A n c0 l e w h hm hl he)
  have HT := Lib.hid h
  have H1 := Lib.hid h1
  have H2 := Lib.hid h2
  obtain ⟨t0, t1⟩ := ht
  clear h hl h1 h2
  go_enter Try.func27, Try.ntmps27
  go_wp2_with fail
  refine (HC.out).mono ?_
  rintro e w1 ⟨rfl, hb1⟩
  have z1 := hb1.size
  have c1 := Below.cells hb1
  have f1 := Below.frozens hb1
  try simp only [World.size_alloc, World.size_setCell, World.size_drew] at z1 c1 f1
  go_wp2_with fail
  have bel1 : Below w.heap.size w w1 := (by repeat (first | (with_reducible exact Below.refl _ _) | ((with_reducible refine Below.alloc ?_ ?_ _); rotate_left; (next => ((try dsimp only); (try simp only [World.size_alloc, World.size_setCell, World.size_drew]); omega))) | ((with_reducible refine Below.setCell ?_ ?_ _); rotate_left; (next => ((try dsimp only); (try simp only [World.size_alloc, World.size_setCell, World.size_drew]); omega))) | (with_reducible refine Below.drew ?_) | ((with_reducible refine Below.trans ?_ (Below.mono hb1 ?_)); rotate_left; (next => ((try dsimp only); (try simp only [World.size_alloc, World.size_setCell, World.size_drew]); omega)))))
  have HB1 := Lib.hid bel1
  clear bel1 c1 f1
  go_loopw [9, 27] (fun is i wr => ∃ k : Nat, k ≤ c ∧ i = .int .i64 k ∧ is = .bool (!par k) ∧ Below w.heap.size w wr) (fun _ i _ => n - (intOf i).toNat)
  case atStart => exact ⟨0, Nat.zero_le _, rfl, rfl, HB1.out⟩
  case round =>
    obtain ⟨k, hk, rfl, rfl, bel⟩ := hrel
    have hsz := bel.size
    by_cases hlt : k < n
    · obtain ⟨b, off, rfl, ltA, hc⟩ := HT.out.2 (by omega)
      have g1 := (bel.cell (p := ⟨b, off + k * 2, none⟩) ltA).trans (hc k hlt).1
      have g2 := (bel.cell (p := ⟨b, off + k * 2 + 1, none⟩) ltA).trans (hc k hlt).2
      obtain ⟨x, hx⟩ : ∃ x, l.getD k 0 = x := ⟨_, rfl⟩
      rw [hx] at g1
      by_cases hkc : k < c
      · have hle := H1.out k hkc
        rw [hx] at hle
        have hd : ¬ t < x := by omega
        clear hc hx
        go_wp2_with fail
        go_roundw
        case rel => exact ⟨k + 1, by omega, by go_num, by rw [par_succ]; simp, (by repeat (first | (with_reducible exact Below.refl _ _) | ((with_reducible refine Below.alloc ?_ ?_ _); rotate_left; (next => ((try dsimp only); (try simp only [World.size_alloc, World.size_setCell, World.size_drew]); omega))) | ((with_reducible refine Below.setCell ?_ ?_ _); rotate_left; (next => ((try dsimp only); (try simp only [World.size_alloc, World.size_setCell, World.size_drew]); omega))) | (with_reducible refine Below.drew ?_) | (with_reducible exact bel)))⟩
        case measure => simp [intOf]; omega
      · obtain rfl : k = c := by omega
        have hgt := H2.out hlt
        rw [hx] at hgt
        clear hc hx
        go_wp2_with fail
        go_ret2
        exact ⟨rfl, (by repeat (first | (with_reducible exact Below.refl _ _) | ((with_reducible refine Below.alloc ?_ ?_ _); rotate_left; (next => ((try dsimp only); (try simp only [World.size_alloc, World.size_setCell, World.size_drew]); omega))) | ((with_reducible refine Below.setCell ?_ ?_ _); rotate_left; (next => ((try dsimp only); (try simp only [World.size_alloc, World.size_setCell, World.size_drew]); omega))) | (with_reducible refine Below.drew ?_) | (with_reducible exact bel)))⟩
    · obtain rfl : n = k := by omega
      obtain rfl : n = c := by omega
      go_wp2_with fail
      go_ret2
      exact ⟨rfl, bel⟩
end Go.Proofs.Ytamncanlbopehaa
