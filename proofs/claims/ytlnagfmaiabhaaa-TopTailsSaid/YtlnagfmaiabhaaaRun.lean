/-
  The walk of fade.Run, and what is so of means that fade.
-/
import Derived.Test.YtlnagfmaiabhaaaFade
set_option linter.unusedSimpArgs false
set_option linter.unusedVariables false
namespace Go.Proofs.Ytlnagfmaiabhaaa
open Go.RowKit

/-- The mean behind all of them. -/
def frun (s : Int) (l : List Int) : Int := l.tail.foldl (fun m x => fnext m x s) (256 * l.headD 0)
theorem frun_one (s : Int) {l : List Int} (h : 0 < l.length) : frun s (l.take 1) = 256 * l.getD 0 0 := by
  rw [take_snoc l h]; simp [frun]
theorem frun_append (s x : Int) {l : List Int} (h : 0 < l.length) : frun s (l ++ [x]) = fnext (frun s l) x s := by
  match l, h with
  | y :: l, _ => simp [frun]
theorem frun_snoc (s : Int) {l : List Int} {k : Nat} (h : k + 1 < l.length) : frun s (l.take (k + 2)) = fnext (frun s (l.take (k + 1))) (l.getD (k + 1) 0) s := by
  rw [take_snoc l h, frun_append _ _ (by simp; omega)]
theorem fnext_btw {m n s lo hi : Int} (h0 : 0 ≤ s) (h1 : s ≤ 8) (a : lo ≤ m ∧ m ≤ hi) (b : lo ≤ 256 * n ∧ 256 * n ≤ hi) : lo ≤ fnext m n s ∧ fnext m n s ≤ hi := by
  unfold fnext
  obtain ⟨k, hk, hk8⟩ := pow_cases h0 h1
  rw [hk]
  have : k = 0 ∨ k = 1 ∨ k = 2 ∨ k = 3 ∨ k = 4 ∨ k = 5 ∨ k = 6 ∨ k = 7 ∨ k = 8 := by omega
  rcases this with rfl | rfl | rfl | rfl | rfl | rfl | rfl | rfl | rfl <;> simp only [Int.reducePow] <;> omega
theorem foldl_btw {s lo hi : Int} (h0 : 0 ≤ s) (h1 : s ≤ 8) {l : List Int} (h : ∀ x ∈ l, lo ≤ 256 * x ∧ 256 * x ≤ hi) : ∀ m, lo ≤ m ∧ m ≤ hi → lo ≤ l.foldl (fun m x => fnext m x s) m ∧ l.foldl (fun m x => fnext m x s) m ≤ hi := by
  induction l with
  | nil => intro m hm; simpa using hm
  | cons x l ih =>
    intro m hm
    simp only [List.foldl_cons]
    exact ih (fun y hy => h y (List.mem_cons_of_mem _ hy)) _ (fnext_btw h0 h1 hm (h x List.mem_cons_self))
theorem frun_btw {s lo hi : Int} (h0 : 0 ≤ s) (h1 : s ≤ 8) {l : List Int} (hl : 0 < l.length) (h : Btw lo hi l) : 256 * lo ≤ frun s l ∧ frun s l ≤ 256 * hi := by
  match l, hl with
  | x :: l, _ =>
    have a := h.head
    refine foldl_btw h0 h1 (l := l) (fun y hy => ?_) _ ?_
    · have := h y (List.mem_cons_of_mem _ hy); omega
    · simp; omega
theorem frun_bd {s : Int} (h0 : 0 ≤ s) (h1 : s ≤ 8) {l : List Int} (hl : 0 < l.length) (h : Btw 0 16777216 l) : 0 ≤ frun s l ∧ frun s l ≤ 4294967296 := by
  have := frun_btw h0 h1 hl h; omega

set_option maxHeartbeats 2000000 in
theorem run_ok (A : Option Addr) (n c : Nat) (l : List Int) (s m : Int) (w : World) (hr : Row w A n l) (hp : 0 < n) (hcap : n ≤ c) (hmx : c ≤ maxLen) (hm : n ≤ 64) (hb : Btw 0 16777216 l) (s0 : 0 ≤ s) (s1 : s ≤ 8) (hf : frun s l = m) :
    Calls Try.prog 60 #[.slice A n c, .int .i64 s] w fun e w' => e = .returned (.tuple #[.int .i64 m, .int .i64 0]) ∧ w = w' := by
  unfold maxLen at hmx
  have HL := Lib.hid hr.len
  have HF := Lib.hid hf
  have HV := Lib.hid hb
  have C := Lib.hid (list_ok A n c l w hr hm hb)
  obtain ⟨b, off, rfl, lt, hc⟩ := hr.at hp
  have hx0 := hb.get (k := 0) (by have := HL.out; omega)
  have hcell0 : w.cell? ⟨b, off, none⟩ = some (.int .i64 (l.getD 0 0)) := hc 0 hp
  obtain ⟨x0, hv0, hx1⟩ := name_num hcell0
  rw [← hv0] at hx0
  have HC := Lib.hid hc
  have HX0 := Lib.hid hv0
  have hne : ((n : Int) == 0) = false := by simp; omega
  clear hr hf hb hc hcell0 hv0
  have hcs : (c = 1 ∧ n = 1) ∨ (¬ c = 1 ∧ n = 1) ∨ (¬ c = 1 ∧ 2 ≤ n) := by omega
  have start : frun s (l.take 1) = 256 * x0 := by rw [frun_one s (by have := HL.out; omega), HX0.out]
  have HS := Lib.hid start
  clear start
  rcases hcs with ⟨rfl, rfl⟩ | ⟨h1, rfl⟩ | ⟨h1, h2⟩
  rotate_left 2
  · go_enter Try.func60, Try.ntmps60
    go_wp2_with fail
    refine (C.out).mono ?_
    rintro e w' ⟨rfl, rfl⟩
    go_wp2_with fail
    go_loop [7, 31] (fun v i => ∃ (k : Nat) (D : Int), k + 1 ≤ n ∧ i = .int .i64 k ∧ v = .int .i64 D ∧ frun s (l.take (k + 1)) = D) (fun _ i => n - (intOf i).toNat)
    case atStart => exact ⟨0, _, by omega, rfl, rfl, HS.out⟩
    case round =>
      obtain ⟨k, D, hk, rfl, rfl, hD⟩ := hrel
      have d1 := frun_bd s0 s1 (l := l.take (k + 1)) (by have := HL.out; simp; omega) (HV.out.take _)
      rw [hD] at d1
      by_cases hlt : k + 1 < n
      · have d2 := frun_snoc s (l := l) (k := k) (by have := HL.out; omega)
        have hx2 := HV.out.get (k := k + 1) (by have := HL.out; omega)
        have hcl := HC.out (k + 1) hlt
        rw [show off + (k + 1) = off + 1 + k by omega] at hcl
        obtain ⟨x, hvx, hxx⟩ := name_num hcl
        rw [← hvx] at hx2 d2
        rw [hD] at d2
        obtain ⟨E, e_E⟩ : ∃ z_, fnext D x s = z_ := ⟨_, rfl⟩
        rw [e_E] at d2
        have HE := Lib.hid e_E
        clear e_E
        have D2 := Lib.hid d2
        clear d2 hD hvx hcl
        have hlt' : k < n - 1 := by omega
        have hlt2 : (k : Int) < (n : Int) - 1 := by omega
        go_wp2_with fail
        refine (next_ok D x s E (by omega) (by omega) (by omega) (by omega) (by omega) (by omega) HE.out _).mono ?_
        rintro e w' ⟨rfl, rfl⟩
        go_wp2_with fail
        go_round
        case rel => exact ⟨k + 1, E, by omega, by go_num, rfl, D2.out⟩
        case measure => simp [intOf]; omega
      · have e : k + 1 = n := by omega
        rw [e, List.take_of_length_le (by have := HL.out; omega), HF.out] at hD
        subst hD
        have hlt' : ¬ k < n - 1 := by omega
        have hlt2 : ¬ (k : Int) < (n : Int) - 1 := by omega
        clear d1 e
        go_wp2_with fail
        go_ret2
        exact ⟨rfl, rfl⟩
  all_goals
    have e : m = 256 * x0 := by rw [← HF.out, ← HS.out, List.take_of_length_le (by have := HL.out; omega)]
    subst e
    go_enter Try.func60, Try.ntmps60
    go_wp2_with fail
    refine (C.out).mono ?_
    rintro e w' ⟨rfl, rfl⟩
    go_wp2_with fail
    refine wp_loop_rounds 1 ?_
    rw [rounds_succ]
    go_wp2_with fail
    go_ret2
    exact ⟨rfl, rfl⟩
end Go.Proofs.Ytlnagfmaiabhaaa
