
/-
  The walk of the statements' own burst: a text with some of 32 bits turned.
-/
import Derived.Test.YtpomdnglknbanaaGreatXo
set_option linter.unusedSimpArgs false
set_option linter.unusedVariables false
namespace Go.Proofs.YtpomdnglknbanaaGreat
open Go.RowKit

theorem xor_add {x i : Nat} (h : x < 2 ^ i) : x ^^^ 2 ^ i = 2 ^ i + x := by
  have e := Nat.two_pow_add_eq_or_of_lt h 1
  rw [Nat.mul_one] at e
  rw [e]
  apply Nat.eq_of_testBit_eq
  intro j
  rw [Nat.testBit_xor, Nat.testBit_or, Nat.testBit_two_pow]
  by_cases c : i = j
  · subst c; rw [Nat.testBit_lt_two_pow h]; simp
  · simp [c]
theorem turn_step {t i : Nat} (at' : Nat) : (t / 2 ^ i % 2 = 1 → t % 2 ^ (i + 1) * 2 ^ at' = (t % 2 ^ i * 2 ^ at') ^^^ 2 ^ (at' + i)) ∧ (t / 2 ^ i % 2 = 0 → t % 2 ^ (i + 1) = t % 2 ^ i) := by
  have e : t % 2 ^ (i + 1) = 2 ^ i * (t / 2 ^ i % 2) + t % 2 ^ i := by rw [Nat.pow_succ, Nat.mod_mul]; omega
  constructor
  · intro h
    rw [e, h, Nat.mul_one]
    have hl : t % 2 ^ i < 2 ^ i := Nat.mod_lt _ (Nat.two_pow_pos i)
    rw [← xor_add hl, Nat.pow_add, Nat.mul_comm (2 ^ at') (2 ^ i)]
    rw [← Nat.shiftLeft_eq, ← Nat.shiftLeft_eq, ← Nat.shiftLeft_eq, Nat.shiftLeft_xor_distrib]
  · intro h; rw [e, h]; omega
set_option maxRecDepth 1000000 in
theorem run_text (w : World) {b n c : Nat} {l : List Nat} (hb : Bytes l) (hl : l.length = n) (h : ∀ j, j < n → w.cell? ⟨b, j, none⟩ = some (bv (l.getD j 0))) :
    (convert 127 9 (.slice (some ⟨b, 0, none⟩) n c)).run Tryz.prog w = .ok (.string (mkB l)) w := by
  have := run_convert_bytes_back w 127 9 5 ⟨b, 0, none⟩ c (l.map UInt8.ofNat) Tryz.underlying127 Tryz.underlying5 Tryz.underlying9 (fun j hj => by
    rw [List.length_map] at hj
    rw [Go.WideShapes.add_plain, Nat.zero_add, h j (by omega)]
    have e : l.getD j 0 = l[j] := by simp [List.getD, hj]
    have := hb l[j] (List.getElem_mem hj)
    rw [e]
    simp only [List.getElem_map, bv]
    congr 2
    simp; omega)
  rw [List.length_map, hl] at this
  exact this
/-- The turned texts: as many bytes, of these bits. -/
def Turned (l l' : List Nat) (x : Nat) : Prop := l'.length = l.length ∧ Bytes l' ∧ dg l' = dg l ^^^ x
theorem bytes_set {l : List Nat} (h : Bytes l) {k v : Nat} (hv : v < 256) : Bytes (l.set k v) := fun x hx => by
  rcases List.mem_or_eq_of_mem_set hx with h1 | h1
  · exact h x h1
  · omega
theorem Turned.bit {l l' : List Nat} {x p : Nat} (h : Turned l l' x) (hp : p < 8 * l.length) : Turned l (l'.set (p / 8) (l'.getD (p / 8) 0 ^^^ 2 ^ (p % 8))) (x ^^^ 2 ^ p) := by
  obtain ⟨h1, h2, h3⟩ := h
  refine ⟨by simp [h1], bytes_set h2 (Nat.xor_lt_two_pow (n := 8) ?_ ?_), ?_⟩
  · have hk : p / 8 < l'.length := by omega
    have : l'.getD (p / 8) 0 = l'[p / 8] := by simp [List.getD, hk]
    rw [this]; exact h2 _ (List.getElem_mem hk)
  · exact Nat.pow_lt_pow_right (by omega) (by omega)
  · rw [dg_turn h2 (by omega), h3, Nat.xor_assoc]

end Go.Proofs.YtpomdnglknbanaaGreat
