/-
  The walk of chen.Expect.
-/
import Derived.Test.YtpomdnglknbanaaLs
import Derived.Test.YtpomdnglknbanaaCm
set_option linter.unusedSimpArgs false
set_option linter.unusedVariables false
namespace Go.Proofs.Ytpomdnglknbanaa
open Go.RowKit

/-- The one ahead of the k-th (0 ahead of the first). -/
def prev (l : List Int) (k : Nat) : Int := if k = 0 then 0 else l.getD (k - 1) 0
/-- Numbers that rise from 1 on, to 1000000. -/
def Rises (l : List Int) : Prop := ∀ k, k < l.length → prev l k < l.getD k 0 ∧ l.getD k 0 ≤ 1000000
theorem prev_succ (l : List Int) (k : Nat) : prev l (k + 1) = l.getD k 0 := by simp [prev]
theorem Rises.prev_bd {l : List Int} (h : Rises l) : ∀ k, k ≤ l.length → 0 ≤ prev l k ∧ prev l k ≤ 1000000 := by
  intro k
  induction k with
  | zero => intro _; simp [prev]
  | succ k ih =>
    intro hk
    have a := ih (by omega)
    have b := h k (by omega)
    rw [prev_succ]
    omega
/-- How much later each came than by its number. -/
def devs (e : Int) (ts ks : List Int) : List Int := List.zipWith (fun t k => t - e * k) ts ks
theorem devs_len {e : Int} {ts ks : List Int} {n : Nat} (h : ts.length = n) (h' : ks.length = n) : (devs e ts ks).length = n := by simp [devs, h, h']
theorem devs_get {e : Int} {ts ks : List Int} {n k : Nat} (h : ts.length = n) (h' : ks.length = n) (hk : k < n) : (devs e ts ks).getD k 0 = ts.getD k 0 - e * ks.getD k 0 := by
  simp [devs, List.getD, List.getElem?_zipWith, show k < ts.length by omega, show k < ks.length by omega]
theorem sum_abs {l : List Int} {M : Int} (h : Btw (-M) M l) : -(l.length * M) ≤ sumI l ∧ sumI l ≤ l.length * M := by
  induction l with
  | nil => simp [sumI]
  | cons x l ih =>
    have a := h.head
    have b := ih h.tail
    simp only [sumI, List.length_cons, Int.natCast_add, Int.add_mul]
    omega
/-- Quotient and remainder as Go has them, and rounded down. -/
theorem floor_cases (d : Int) {n : Int} (hn : 0 < n) : (d.tmod n < 0 ∧ d.tdiv n - 1 = d / n) ∨ (¬ d.tmod n < 0 ∧ d.tdiv n = d / n) := by
  have e1 := Int.mul_ediv_add_emod d n
  have e2 := Int.emod_nonneg d (show n ≠ 0 by omega)
  have e3 := Int.emod_lt_of_pos d hn
  have e4 := Int.mul_tdiv_add_tmod d n
  rcases Int.lt_or_le d 0 with h | h
  · have t1 : d.tmod n ≤ 0 := by
      have := Int.tmod_nonneg (a := -d) n (by omega)
      rw [Int.neg_tmod] at this
      omega
    have t2 : - n < d.tmod n := by
      have := Int.tmod_lt_of_pos (-d) hn
      rw [Int.neg_tmod] at this
      omega
    by_cases c : d.tmod n < 0
    · refine .inl ⟨c, ?_⟩
      have : n * (d.tdiv n - 1 - d / n) = d % n - d.tmod n - n := by rw [Int.mul_sub, Int.mul_sub]; omega
      have b : d.tdiv n - 1 - d / n = 0 := by
        have h1 : n * (d.tdiv n - 1 - d / n) < n := by omega
        have h2 : -n < n * (d.tdiv n - 1 - d / n) := by omega
        rcases Int.lt_trichotomy (d.tdiv n - 1 - d / n) 0 with q | q | q
        · have := Int.mul_le_mul_of_nonneg_left (show d.tdiv n - 1 - d / n ≤ -1 by omega) (show 0 ≤ n by omega); omega
        · exact q
        · have := Int.mul_le_mul_of_nonneg_left (show 1 ≤ d.tdiv n - 1 - d / n by omega) (show 0 ≤ n by omega); omega
      omega
    · refine .inr ⟨c, ?_⟩
      have t3 : d.tmod n = 0 := by omega
      have : n * (d.tdiv n - d / n) = d % n := by rw [Int.mul_sub]; omega
      have b : d.tdiv n - d / n = 0 := by
        rcases Int.lt_trichotomy (d.tdiv n - d / n) 0 with q | q | q
        · have := Int.mul_le_mul_of_nonneg_left (show d.tdiv n - d / n ≤ -1 by omega) (show 0 ≤ n by omega); omega
        · exact q
        · have := Int.mul_le_mul_of_nonneg_left (show 1 ≤ d.tdiv n - d / n by omega) (show 0 ≤ n by omega); omega
      omega
  · rw [Int.tdiv_eq_ediv_of_nonneg h, Int.tmod_eq_emod_of_nonneg h]
    exact .inr ⟨by omega, rfl⟩

set_option maxRecDepth 100000 in
set_option maxHeartbeats 4000000 in
theorem expect_ok (A A' : Option Addr) (n c c' : Nat) (ks ts : List Int) (e x : Int) (w : World) (hr : Row w A n ks) (hr' : Row w A' n ts) (h0 : 0 < n) (hm : n ≤ 64) (he : 1 ≤ e ∧ e ≤ 16777216) (hk : Rises ks) (ht : Btw 0 1073741824 ts)
    (hx : sumI (devs e ts ks) / n + e * (prev ks n + 1) = x) :
    Calls Try.prog 85 #[.slice A n c, .slice A' n c', .int .i64 e] w fun e' w' => e' = .returned (.tuple #[.int .i64 x, .int .i64 0]) ∧ w = w' := by
  obtain ⟨e0, e1⟩ := he
  have lk := hr.len
  have lt := hr'.len
  obtain ⟨b, off, rfl, _, hc⟩ := hr.at h0
  obtain ⟨b', off', rfl, _, hc'⟩ := hr'.at h0
  have hdl := devs_len (e := e) lt lk
  obtain ⟨D, hD⟩ : ∃ D, devs e ts ks = D := ⟨_, rfl⟩
  have hget : ∀ k, k < n → D.getD k 0 = ts.getD k 0 - e * ks.getD k 0 := fun k hk => by rw [← hD]; exact devs_get lt lk hk
  rw [hD] at hdl hx
  have hDb : Btw (-16777217073741824) 16777217073741824 D := by
    intro y hy
    obtain ⟨k, hk', rfl⟩ := List.getElem_of_mem hy
    have g : D[k] = D.getD k 0 := by simp [List.getD, hk']
    rw [g, hget k (by omega)]
    have a := ht.get (k := k) (by omega)
    have p := hk k (by omega)
    have q := hk.prev_bd k (by omega)
    have r : 0 ≤ e * ks.getD k 0 ∧ e * ks.getD k 0 ≤ 16777216 * 1000000 := ⟨Int.mul_nonneg (by omega) (by omega), Int.mul_le_mul e1 p.2 (by omega) (by omega)⟩
    omega
  have HG := Lib.hid hget
  have HDb := Lib.hid hDb
  have HDl := Lib.hid hdl
  have HX := Lib.hid hx
  have HC := Lib.hid hc
  have HC' := Lib.hid hc'
  have HK := Lib.hid hk
  have HT := Lib.hid ht
  have HLk := Lib.hid lk
  have HLt := Lib.hid lt
  have hne : ((n : Int) == 0) = false := by simp; omega
  clear hr hr' hget hDb hdl hx hc hc' hk ht lk lt hD
  go_enter Try.func85, Try.ntmps85
  go_wp2_with fail
  go_loop [8, 9, 35] (fun s p i => ∃ (k : Nat) (S P : Int), k ≤ n ∧ i = .int .i64 k ∧ s = .int .i64 S ∧ p = .int .i64 P ∧ sumI (D.take k) = S ∧ prev ks k = P) (fun _ _ i => n - (intOf i).toNat)
  case atStart => exact ⟨0, 0, 0, Nat.zero_le _, rfl, rfl, rfl, by simp [sumI], rfl⟩
  case round =>
    obtain ⟨k, S, P, hk, rfl, rfl, rfl, hS, hP⟩ := hrel
    have d1 := sum_abs (HDb.out.take k)
    have hlen : (D.take k).length ≤ 64 := by have := HDl.out; simp; omega
    rw [hS] at d1
    have d2 : -1073741892719476736 ≤ S ∧ S ≤ 1073741892719476736 := by omega
    have p1 := HK.out.prev_bd k (by have := HLk.out; omega)
    rw [hP] at p1
    by_cases hlt : k < n
    · have r1 := HK.out k (by have := HLk.out; omega)
      rw [hP] at r1
      have t1 := HT.out.get (k := k) (by have := HLt.out; omega)
      have g1 := HG.out k hlt
      have s1 := sumI_snoc D (k := k) (by have := HDl.out; omega)
      have v1 := prev_succ ks k
      obtain ⟨y, hy, hcy⟩ := name_num (HC.out k hlt)
      obtain ⟨z, hz, hcz⟩ := name_num (HC'.out k hlt)
      rw [← hy] at r1 g1 v1
      rw [← hz] at t1 g1
      rw [hS, g1] at s1
      have r : 0 ≤ e * y ∧ e * y ≤ 16777216 * 1000000 := ⟨Int.mul_nonneg (by omega) (by omega), Int.mul_le_mul e1 r1.2 (by omega) (by omega)⟩
      have S1 := Lib.hid s1
      have V1 := Lib.hid v1
      clear d1 hlen g1 s1 v1 hy hz hS hP
      obtain ⟨r1, r2⟩ := r1
      go_wp2_with fail
      go_round
      case rel => exact ⟨k + 1, _, y, by omega, by go_num, rfl, rfl, S1.out, V1.out⟩
      case measure => simp [intOf]; omega
    · obtain rfl : n = k := by omega
      rw [List.take_of_length_le (by have := HDl.out; omega)] at hS
      have fc := floor_cases S (n := (n : Int)) (by omega)
      have hx := HX.out
      rw [hS, hP] at hx
      have q1 : -1073741892719476736 ≤ S / n ∧ S / n ≤ 1073741892719476736 := by
        constructor
        · rw [Int.le_ediv_iff_mul_le (by omega)]; have := Int.mul_le_mul_of_nonneg_left (show (1 : Int) ≤ n by omega) (show (0 : Int) ≤ 1073741892719476736 by omega); omega
        · exact Int.ediv_le_of_le_mul (by omega) (by have := Int.mul_le_mul_of_nonneg_left (show (1 : Int) ≤ n by omega) (show (0 : Int) ≤ 1073741892719476736 by omega); omega)
      have r : 0 ≤ e * (P + 1) ∧ e * (P + 1) ≤ 16777216 * 1000001 := ⟨Int.mul_nonneg (by omega) (by omega), Int.mul_le_mul e1 (by omega) (by omega) (by omega)⟩
      obtain ⟨qq, hq⟩ : ∃ qq, S.tdiv n = qq := ⟨_, rfl⟩
      obtain ⟨rr, hrr⟩ : ∃ rr, S.tmod n = rr := ⟨_, rfl⟩
      rw [hq, hrr] at fc
      have hrb : -64 < rr ∧ rr < 64 := by
        have a := Int.tmod_lt_of_pos S (show (0 : Int) < n by omega)
        have b := Int.tmod_lt_of_pos (-S) (show (0 : Int) < n by omega)
        rw [Int.neg_tmod] at b
        omega
      clear d1 hlen hS hP
      rcases fc with ⟨f1, f2⟩ | ⟨f1, f2⟩
      · have hx2 : qq - 1 + e * (P + 1) = x := by rw [f2]; exact hx
        have HX2 := Lib.hid hx2
        have f3 : -1073741892719476737 ≤ qq ∧ qq ≤ 1073741892719476737 := by omega
        clear hx hx2 f2 q1
        go_wp2_with fail
        go_ret2
        exact ⟨by rw [HX2.out]; rfl, rfl⟩
      · have hx2 : qq + e * (P + 1) = x := by rw [f2]; exact hx
        have HX2 := Lib.hid hx2
        have f3 : -1073741892719476737 ≤ qq ∧ qq ≤ 1073741892719476737 := by omega
        clear hx hx2 f2 q1
        go_wp2_with fail
        go_ret2
        exact ⟨by rw [HX2.out]; rfl, rfl⟩
end Go.Proofs.Ytpomdnglknbanaa
