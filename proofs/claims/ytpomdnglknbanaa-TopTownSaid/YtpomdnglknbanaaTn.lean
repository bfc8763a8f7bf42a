/-
  Who was silent for long is suspected at any threshold.
-/
import Derived.Test.YtpomdnglknbanaaTk
set_option linter.unusedSimpArgs false
set_option linter.unusedVariables false
namespace Go.Proofs.Ytpomdnglknbanaa
open Go Go.RowKit
theorem sums_le {V : Int} (hV : 0 ≤ V) : ∀ {l : List Int}, (∀ v ∈ l, 0 ≤ v ∧ v ≤ V) → sumI l ≤ (l.length : Int) * V ∧ sqI l ≤ (l.length : Int) * (V * V)
  | [], _ => by simp [sumI, sqI]
  | a :: l, h => by
    obtain ⟨i1, i2⟩ := sums_le hV (l := l) fun v hv => h v (List.mem_cons_of_mem _ hv)
    have ha := h a List.mem_cons_self
    have h2 : a * a ≤ V * V := Int.mul_le_mul ha.2 ha.2 ha.1 hV
    have e : ((a :: l).length : Int) = (l.length : Int) + 1 := by simp
    rw [e, Int.add_mul, Int.add_mul, Int.one_mul, Int.one_mul]
    show a + sumI l ≤ _ ∧ a * a + sqI l ≤ _
    omega
theorem pow2_le {a b : Nat} (h : a ≤ b) : (2 : Int) ^ a ≤ 2 ^ b := by
  obtain ⟨c, rfl⟩ : ∃ c, b = a + c := ⟨b - a, by omega⟩
  rw [Int.pow_add]
  have h1 : (0 : Int) < 2 ^ a := Int.pow_pos (by omega)
  have h2 : (0 : Int) < 2 ^ c := Int.pow_pos (by omega)
  have := Int.mul_le_mul_of_nonneg_left (show (1 : Int) ≤ 2 ^ c by omega) (show 0 ≤ (2 : Int) ^ a by omega)
  omega
theorem lev_high {s : NSt} {id : ByteArray} {V theta : Int} {h : Nat} (ok : NOK s) (hh : has s.peers id = true) (hv : ∀ v ∈ (prT s id).vals, v ≤ V) (hl : s.least ≤ V) (hd : V * 2 ^ h ≤ s.now - (prT s id).last - V) (ht : 0 ≤ theta ∧ theta ≤ 2 * h) : theta ≤ levN s id := by
  obtain ⟨p1, p2, p3⟩ := ok.at (has_lt hh)
  have hn := ok.now
  have pl := p1.last
  have lb := ok.least
  have w1 := p1.win.2.1
  have w2 := p1.win.2.2.1
  rw [lev_some hh]
  unfold lvP
  change ∀ v ∈ (s.peers.getD (pos s.peers id) default).vals, v ≤ V at hv
  change V * 2 ^ h ≤ s.now - (s.peers.getD (pos s.peers id) default).last - V at hd
  obtain ⟨T, hT⟩ : ∃ T, s.now - (s.peers.getD (pos s.peers id) default).last = T := ⟨_, rfl⟩
  rw [hT] at hd ⊢
  have btw := p1.win.2.2.2
  have b0 : ∀ v ∈ (s.peers.getD (pos s.peers id) default).vals, 0 ≤ v ∧ v ≤ V := fun v hv' => ⟨(btw v hv').1, hv v hv'⟩
  obtain ⟨l, hl'⟩ : ∃ l, (s.peers.getD (pos s.peers id) default).vals = l := ⟨_, rfl⟩
  rw [hl'] at p2 w2 btw b0 ⊢
  obtain ⟨_, hN, hD, h1⟩ := lv_facts (l := l) (L := s.least) (T := T) p2 (by omega) btw lb (by omega)
  obtain ⟨q1, q2⟩ := sums_le (by omega) b0
  have hp : (0 : Int) < 2 ^ h := Int.pow_pos (by omega)
  have hge := (LevR.ge hN.1 h1 (t := theta) (by omega)).2
  refine hge ?_
  obtain ⟨n, hn'⟩ : ∃ n : Int, (l.length : Int) = n := ⟨_, rfl⟩
  rw [hn'] at q1 q2 ⊢
  have n1 : 1 ≤ n := by omega
  have nV : 0 ≤ n * V := Int.mul_nonneg (by omega) (by omega)
  -- the spread
  have hNb : lfl n (n * sqI l - sumI l * sumI l) s.least ≤ n * V * (n * V) := by
    unfold lfl
    have a1 : n * n * s.least * s.least ≤ n * V * (n * V) := by
      have e : n * n * s.least * s.least = n * s.least * (n * s.least) := by ac_rfl
      rw [e]
      have := Int.mul_le_mul_of_nonneg_left hl (show 0 ≤ n by omega)
      exact Int.mul_le_mul this this (Int.mul_nonneg (by omega) (by omega)) nV
    have a2 : n * sqI l - sumI l * sumI l ≤ n * V * (n * V) := by
      have b1 := Int.mul_le_mul_of_nonneg_left q2 (show 0 ≤ n by omega)
      have b2 : 0 ≤ sumI l * sumI l := by
        rcases Int.le_total 0 (sumI l) with c | c
        · exact Int.mul_nonneg c c
        · exact Int.mul_nonneg_of_nonpos_of_nonpos c c
      have b3 : n * (n * (V * V)) = n * V * (n * V) := by ac_rfl
      omega
    split
    · exact a1
    · exact a2
  -- how late
  have hDb : n * V * 2 ^ h ≤ late0 n (sumI l) T := by
    have c1 := Int.mul_le_mul_of_nonneg_left hd (show 0 ≤ n by omega)
    rw [Int.mul_sub, ← Int.mul_assoc] at c1
    have c2 : 0 ≤ n * V * 2 ^ h := Int.mul_nonneg nV (by omega)
    unfold late0
    split <;> omega
  have hDD : n * V * 2 ^ h * (n * V * 2 ^ h) ≤ late0 n (sumI l) T * late0 n (sumI l) T := by
    have c2 : 0 ≤ n * V * 2 ^ h := Int.mul_nonneg nV (by omega)
    exact Int.mul_le_mul hDb hDb c2 (by omega)
  have hpw : (2 : Int) ^ theta.toNat ≤ 2 ^ h * 2 ^ h := by
    rw [← Int.pow_add]
    exact pow2_le (by omega)
  have hfin : lfl n (n * sqI l - sumI l * sumI l) s.least * 2 ^ theta.toNat ≤ n * V * 2 ^ h * (n * V * 2 ^ h) := by
    have e : n * V * 2 ^ h * (n * V * 2 ^ h) = n * V * (n * V) * (2 ^ h * 2 ^ h) := by ac_rfl
    rw [e]
    exact Int.mul_le_mul hNb hpw (Int.le_of_lt (Int.pow_pos (by omega))) (Int.mul_nonneg nV nV)
  have := hN.1
  rw [hn'] at this
  omega
end Go.Proofs.Ytpomdnglknbanaa
