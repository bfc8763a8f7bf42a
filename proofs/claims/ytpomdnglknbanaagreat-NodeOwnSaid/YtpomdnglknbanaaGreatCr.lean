/-
  Plain arithmetic of CRC-32: steps by one bit are linear and lose nothing; a text's sum is so many steps of the text as one number. No Go in sight.
-/
import Derived.WalkKit
set_option linter.unusedSimpArgs false
set_option linter.unusedVariables false
namespace Go.Proofs.YtpomdnglknbanaaGreat

/-- One bit. -/
def stp (c : Nat) : Nat := if c % 2 = 1 then c / 2 ^^^ 3988292384 else c / 2
/-- So many bits. -/
def stn : Nat → Nat → Nat
  | 0, c => c
  | n + 1, c => stn n (stp c)

theorem xor_mod2 (a b : Nat) : (a ^^^ b) % 2 = (a % 2 + b % 2) % 2 := by
  have h := Nat.xor_mod_two_pow (a := a) (b := b) (n := 1)
  rw [Nat.pow_one] at h
  rw [h]
  rcases Nat.mod_two_eq_zero_or_one a with p | p <;> rcases Nat.mod_two_eq_zero_or_one b with q | q <;> rw [p, q] <;> rfl
theorem xor_div2 (a b : Nat) : (a ^^^ b) / 2 = a / 2 ^^^ b / 2 := by
  have h := Nat.shiftRight_xor_distrib (a := a) (b := b) (i := 1)
  simpa [Nat.shiftRight_eq_div_pow] using h
theorem xor4 (a b c d : Nat) : (a ^^^ b) ^^^ (c ^^^ d) = (a ^^^ c) ^^^ (b ^^^ d) := by
  rw [Nat.xor_assoc, Nat.xor_assoc, ← Nat.xor_assoc b c d, Nat.xor_comm b c, Nat.xor_assoc c b d]
theorem stp_xor (a b : Nat) : stp (a ^^^ b) = stp a ^^^ stp b := by
  unfold stp
  rw [xor_mod2, xor_div2]
  rcases Nat.mod_two_eq_zero_or_one a with p | p <;> rcases Nat.mod_two_eq_zero_or_one b with q | q <;> rw [p, q]
  · simp
  · simp [Nat.xor_assoc]
  · simp only [Nat.reduceAdd, Nat.reduceMod, if_true, Nat.zero_ne_one, if_false, Nat.add_zero]
    rw [Nat.xor_assoc, Nat.xor_assoc, Nat.xor_comm (b / 2)]
  · simp only [Nat.reduceAdd, Nat.reduceMod, if_true, Nat.zero_ne_one, if_false]
    rw [xor4, Nat.xor_self, Nat.xor_zero]
theorem stn_xor (n : Nat) : ∀ a b : Nat, stn n (a ^^^ b) = stn n a ^^^ stn n b := by
  induction n with
  | zero => intro a b; rfl
  | succ n ih => intro a b; simp only [stn, stp_xor, ih]
theorem stn_zero (n : Nat) : stn n 0 = 0 := by
  induction n with
  | zero => rfl
  | succ n ih => simp only [stn, show stp 0 = 0 from rfl, ih]
theorem stn_add (m n c : Nat) : stn (m + n) c = stn n (stn m c) := by
  induction m generalizing c with
  | zero => simp [stn]
  | succ m ih => rw [show m + 1 + n = (m + n) + 1 by omega]; simp only [stn, ih]
theorem stp_two (c : Nat) : stp (c * 2) = c := by unfold stp; rw [if_neg (by omega)]; omega
theorem stn_shift (n c : Nat) : stn n (c * 2 ^ n) = c := by
  induction n with
  | zero => simp [stn]
  | succ n ih => simp only [stn]; rw [Nat.pow_succ, ← Nat.mul_assoc, stp_two, ih]
theorem xor_lt32 {a b : Nat} (ha : a < 4294967296) (hb : b < 4294967296) : a ^^^ b < 4294967296 := Nat.xor_lt_two_pow (n := 32) ha hb
theorem stp_lt {c : Nat} (h : c < 4294967296) : stp c < 4294967296 := by
  unfold stp; split
  · exact xor_lt32 (by omega) (by omega)
  · omega
theorem stp_inj {c : Nat} (h : c < 4294967296) (h0 : stp c = 0) : c = 0 := by
  unfold stp at h0
  split at h0
  · have e : c / 2 = 3988292384 := by
      have := congrArg (· ^^^ 3988292384) h0
      simp only [Nat.xor_assoc, Nat.xor_self, Nat.xor_zero, Nat.zero_xor] at this
      exact this
    omega
  · omega
theorem stn_lt (n : Nat) : ∀ {c : Nat}, c < 4294967296 → stn n c < 4294967296 := by
  induction n with
  | zero => intro c h; exact h
  | succ n ih => intro c h; simp only [stn]; exact ih (stp_lt h)
theorem stn_inj (n : Nat) : ∀ {c : Nat}, c < 4294967296 → stn n c = 0 → c = 0 := by
  induction n with
  | zero => intro c _ h; exact h
  | succ n ih => intro c h h0; simp only [stn] at h0; exact stp_inj h (ih (stp_lt h) h0)

/-- One byte more. -/
def crcStep (c x : Nat) : Nat := c / 256 ^^^ stn 8 (c % 256 ^^^ x)
/-- Bytes more. -/
def crcRun : Nat → List Nat → Nat
  | c, [] => c
  | c, x :: l => crcRun (crcStep c x) l
/-- The sum. -/
def crcOf (l : List Nat) : Nat := 4294967295 ^^^ crcRun 4294967295 l
/-- A text as one number, the first byte the lowest. -/
def dg : List Nat → Nat
  | [] => 0
  | x :: l => x + 256 * dg l
def Bytes (l : List Nat) : Prop := ∀ x ∈ l, x < 256
theorem Bytes.tail {x : Nat} {l : List Nat} (h : Bytes (x :: l)) : Bytes l := fun y hy => h y (List.mem_cons_of_mem _ hy)
theorem Bytes.head {x : Nat} {l : List Nat} (h : Bytes (x :: l)) : x < 256 := h x List.mem_cons_self

theorem add_xor {x d : Nat} (h : x < 256) : x + 256 * d = x ^^^ d * 2 ^ 8 := by
  apply Nat.eq_of_testBit_eq
  intro j
  have e : x + 256 * d = 2 ^ 8 * d + x := by omega
  rw [e, Nat.testBit_two_pow_mul_add _ (by simpa using h), Nat.testBit_xor, Nat.mul_comm d, Nat.testBit_two_pow_mul]
  split
  · rename_i hj; simp [show ¬ 8 ≤ j by omega]
  · rename_i hj
    have : x.testBit j = false := Nat.testBit_lt_two_pow (Nat.lt_of_lt_of_le h (by
      have : 2 ^ 8 ≤ 2 ^ j := Nat.pow_le_pow_right (by omega) (by omega)
      simpa using this))
    simp [this, show 8 ≤ j by omega]
theorem crcStep_eq {c x : Nat} : crcStep c x = stn 8 (c ^^^ x) := by
  have e : c = c % 256 ^^^ (c / 256) * 2 ^ 8 := by
    rw [← add_xor (Nat.mod_lt _ (by omega))]; omega
  unfold crcStep
  conv => rhs; rw [e]
  rw [Nat.xor_assoc, Nat.xor_comm (c / 256 * 2 ^ 8) x, ← Nat.xor_assoc, stn_xor 8 (c % 256 ^^^ x), stn_shift, Nat.xor_comm]
theorem crcRun_eq : ∀ (l : List Nat), Bytes l → ∀ c, crcRun c l = stn (8 * l.length) (c ^^^ dg l) := by
  intro l
  induction l with
  | nil => intro _ c; simp [crcRun, dg, stn]
  | cons x l ih =>
    intro h c
    simp only [crcRun, dg, List.length_cons]
    rw [ih h.tail, crcStep_eq, show 8 * (l.length + 1) = 8 + 8 * l.length by omega, stn_add, add_xor h.head, ← Nat.xor_assoc, stn_xor 8 (c ^^^ x), stn_shift]
theorem dg_lt : ∀ {l : List Nat}, Bytes l → dg l < 2 ^ (8 * l.length) := by
  intro l
  induction l with
  | nil => intro _; simp [dg]
  | cons x l ih =>
    intro h
    have a := ih h.tail
    have b := h.head
    simp only [dg, List.length_cons]
    rw [show 8 * (l.length + 1) = 8 * l.length + 8 by omega, Nat.pow_add]
    omega
theorem crcRun_lt {l : List Nat} (h : Bytes l) : ∀ {c : Nat}, c < 4294967296 → crcRun c l < 4294967296 := by
  induction l with
  | nil => intro c hc; exact hc
  | cons x l ih =>
    intro c hc
    refine ih h.tail ?_
    rw [crcStep_eq]
    exact stn_lt 8 (xor_lt32 hc (by have := h.head; omega))
theorem crcOf_lt {l : List Nat} (h : Bytes l) : crcOf l < 4294967296 := xor_lt32 (by omega) (crcRun_lt h (by omega))
theorem crcRun_append (a b : List Nat) : ∀ c, crcRun c (a ++ b) = crcRun (crcRun c a) b := by
  induction a with
  | nil => intro c; rfl
  | cons x a ih => intro c; simp only [List.cons_append, crcRun, ih]
theorem crcRun_snoc {l : List Nat} {k : Nat} (h : k < l.length) (c : Nat) : crcRun c (l.take (k + 1)) = crcStep (crcRun c (l.take k)) (l.getD k 0) := by
  have e : l.take (k + 1) = l.take k ++ [l.getD k 0] := by
    rw [List.take_succ_eq_append_getElem h]; simp [h]
  rw [e, crcRun_append]; rfl

/-- Three texts of one length, added bit by bit. -/
def xor3 : List Nat → List Nat → List Nat → List Nat
  | x :: a, y :: b, z :: c => (x ^^^ y ^^^ z) :: xor3 a b c
  | _, _, _ => []
theorem crcStep_xor3 (c d e x y z : Nat) : crcStep (c ^^^ d ^^^ e) (x ^^^ y ^^^ z) = crcStep c x ^^^ crcStep d y ^^^ crcStep e z := by
  simp only [crcStep_eq, ← stn_xor]
  rw [xor4 (c ^^^ d) e (x ^^^ y) z, xor4 c d x y]
theorem crcRun_xor3 : ∀ (a b c : List Nat), a.length = b.length → b.length = c.length → ∀ i j k : Nat, crcRun (i ^^^ j ^^^ k) (xor3 a b c) = crcRun i a ^^^ crcRun j b ^^^ crcRun k c := by
  intro a
  induction a with
  | nil =>
    intro b c h1 h2 i j k
    obtain rfl : b = [] := List.eq_nil_of_length_eq_zero h1.symm
    obtain rfl : c = [] := List.eq_nil_of_length_eq_zero h2.symm
    simp [xor3, crcRun]
  | cons x a ih =>
    intro b c h1 h2 i j k
    match b, c, h1, h2 with
    | y :: b, z :: c, h1, h2 =>
      simp only [xor3, crcRun, crcStep_xor3]
      exact ih b c (by simpa using h1) (by simpa using h2) _ _ _
theorem crcOf_xor3 (a b c : List Nat) (h1 : a.length = b.length) (h2 : b.length = c.length) : crcOf (xor3 a b c) = crcOf a ^^^ crcOf b ^^^ crcOf c := by
  unfold crcOf
  have e : (4294967295 : Nat) = 4294967295 ^^^ 4294967295 ^^^ 4294967295 := rfl
  conv => lhs; rw [e, crcRun_xor3 a b c h1 h2]
  rw [xor4 (4294967295 ^^^ 4294967295) 4294967295, xor4 4294967295 4294967295]

/-- Texts that differ in 32 bits side by side have unlike sums. -/
theorem crcOf_burst {a b : List Nat} (ha : Bytes a) (hb : Bytes b) (hl : a.length = b.length) {at' t : Nat} (hat : at' + 32 ≤ 8 * a.length) (ht : t < 4294967296) (h0 : t ≠ 0) (hd : dg a ^^^ dg b = t * 2 ^ at') : crcOf a ≠ crcOf b := by
  intro h
  unfold crcOf at h
  have h1 : crcRun 4294967295 a ^^^ crcRun 4294967295 b = 0 := by
    have := congrArg (4294967295 ^^^ ·) h
    simp only [← Nat.xor_assoc, Nat.xor_self, Nat.zero_xor] at this
    rw [this, Nat.xor_self]
  rw [crcRun_eq a ha, crcRun_eq b hb, ← hl, ← stn_xor, xor4, Nat.xor_self, Nat.zero_xor, hd, show 8 * a.length = at' + (8 * a.length - at') by omega, stn_add, stn_shift] at h1
  exact h0 (stn_inj _ ht h1)
theorem dg_append (a b : List Nat) : dg (a ++ b) = dg a + 2 ^ (8 * a.length) * dg b := by
  induction a with
  | nil => simp [dg]
  | cons x a ih =>
    simp only [List.cons_append, dg, ih, List.length_cons, Nat.mul_add, Nat.mul_one]
    rw [Nat.pow_add, show (2 : Nat) ^ 8 = 256 from rfl]
    have : 2 ^ (8 * a.length) * 256 * dg b = 256 * (2 ^ (8 * a.length) * dg b) := by rw [Nat.mul_comm (2 ^ (8 * a.length)) 256, Nat.mul_assoc]
    omega
/-- The bits of a text. -/
theorem dg_bit : ∀ {l : List Nat}, Bytes l → ∀ p, (dg l).testBit p = (l.getD (p / 8) 0).testBit (p % 8) := by
  intro l
  induction l with
  | nil => intro _ p; simp [dg]
  | cons x l ih =>
    intro h p
    simp only [dg]
    rw [show x + 256 * dg l = 2 ^ 8 * dg l + x by omega, Nat.testBit_two_pow_mul_add _ (by simpa using h.head)]
    split
    · rename_i hp
      rw [show p / 8 = 0 by omega, show p % 8 = p by omega]; rfl
    · rename_i hp
      rw [ih h.tail, show p / 8 = (p - 8) / 8 + 1 by omega, show (p - 8) % 8 = p % 8 by omega]; rfl
/-- One bit turned. -/
theorem dg_turn {l : List Nat} (h : Bytes l) {p : Nat} (hp : p < 8 * l.length) : dg (l.set (p / 8) (l.getD (p / 8) 0 ^^^ 2 ^ (p % 8))) = dg l ^^^ 2 ^ p := by
  have hb : Bytes (l.set (p / 8) (l.getD (p / 8) 0 ^^^ 2 ^ (p % 8))) := by
    intro x hx
    rcases List.mem_or_eq_of_mem_set hx with hx | rfl
    · exact h x hx
    · refine Nat.xor_lt_two_pow (n := 8) ?_ (Nat.pow_lt_pow_right (by omega) (Nat.mod_lt _ (by omega)))
      have hlt : p / 8 < l.length := by omega
      rw [show l.getD (p / 8) 0 = l[p / 8] by simp [List.getD, hlt]]
      exact h _ (List.getElem_mem hlt)
  apply Nat.eq_of_testBit_eq
  intro j
  rw [dg_bit hb, Nat.testBit_xor, dg_bit h, Nat.testBit_two_pow]
  by_cases c : j / 8 = p / 8
  · have hlt : p / 8 < l.length := by omega
    rw [c, show (l.set (p / 8) (l.getD (p / 8) 0 ^^^ 2 ^ (p % 8))).getD (p / 8) 0 = l.getD (p / 8) 0 ^^^ 2 ^ (p % 8) by simp [List.getD, hlt], Nat.testBit_xor, Nat.testBit_two_pow]
    congr 1
    simp only [decide_eq_decide]
    omega
  · rw [show (l.set (p / 8) (l.getD (p / 8) 0 ^^^ 2 ^ (p % 8))).getD (j / 8) 0 = l.getD (j / 8) 0 by simp [List.getD, List.getElem?_set, Ne.symm c]]
    have : decide (p = j) = false := by simp; omega
    rw [this, Bool.xor_false]
end Go.Proofs.YtpomdnglknbanaaGreat
