/-
  A burst in a beat's text: plain.
-/
import Derived.Test.YtamncanlbopehaaBl
import Derived.Test.YtamncanlbopehaaLbeatback
set_option linter.unusedSimpArgs false
set_option linter.unusedVariables false
namespace Go.Proofs.Ytamncanlbopehaa
open Go.RowKit
theorem dg_inj : ∀ {a b : List Nat}, Bytes a → Bytes b → a.length = b.length → dg a = dg b → a = b := by
  intro a
  induction a with
  | nil => intro b _ _ hl _; exact (List.length_eq_zero_iff.1 hl.symm).symm
  | cons x a ih =>
    intro b ha hb hl h
    cases b with
    | nil => simp at hl
    | cons y b =>
      simp only [dg] at h
      have h1 := ha x (by simp)
      have h2 := hb y (by simp)
      simp only [List.length_cons, Nat.add_right_cancel_iff] at hl
      have h3 : x = y := by omega
      subst h3
      rw [ih ha.tail hb.tail hl (by omega)]
theorem Turned.one {l a b : List Nat} {x : Nat} (ha : Turned l a x) (hb : Turned l b x) : a = b := dg_inj ha.2.1 hb.2.1 (ha.1.trans hb.1.symm) (ha.2.2.trans hb.2.2.symm)
theorem burst_one (s : ByteArray) (at' t n : Nat) (w0 : World) (hs : s.size = n) (hm : n ≤ 1000000) (hat : at' + 32 ≤ 8 * n) (ht : t < 4294967296) :
    ∃ l', Turned (byts s) l' (t * 2 ^ at') ∧ ∀ w, Calls Try.prog 22 #[.string s, .int .i64 at', .int .u32 t] w fun e w' => e = .returned (.string (mkB l')) ∧ Below w.heap.size w w' := by
  obtain ⟨e, w', fr, ⟨l', h1, h2, h3⟩, _⟩ := burst_ok s at' t n w0 hs hm hat ht []
  refine ⟨l', h2, fun w => (burst_ok s at' t n w hs hm hat ht).mono ?_⟩
  rintro e w' ⟨l2, rfl, g2, g3⟩
  exact ⟨by rw [g2.one h2], g3⟩
theorem xor_up (x M y n : Nat) (hx : x < 2 ^ n) : (x + 2 ^ n * M) ^^^ (x + 2 ^ n * (M ^^^ y)) = y * 2 ^ n := by
  apply Nat.eq_of_testBit_eq
  intro j
  rw [Nat.testBit_xor, Nat.add_comm x, Nat.add_comm x, Nat.testBit_two_pow_mul_add _ hx, Nat.testBit_two_pow_mul_add _ hx, Nat.mul_comm y, ← Nat.add_zero (2 ^ n * y), Nat.testBit_two_pow_mul_add _ (Nat.two_pow_pos n)]
  by_cases h : j < n
  · simp [h]
  · simp [h, Nat.testBit_xor, ← Bool.xor_assoc]
/-- A turned text is told to be wrong. -/
theorem dec_turned {id l' : List Nat} {i s a t : Nat} (h : IdOK id) (ht : Turned ((plainL id i s).drop 2) l' (t * 2 ^ a)) (hat : a + 32 ≤ 8 * (8 + id.length)) (h1 : t < 4294967296) (h0 : t ≠ 0) :
    decE ([72, id.length] ++ l' ++ fourL (crcOf (plainL id i s))) = 9 := by
  have hl := plainL_len id i s
  have hp2 : plainL id i s = [72, id.length] ++ (plainL id i s).drop 2 := by simp [plainL]
  have hb := plainL_bytes (i := i) (s := s) h
  have hll : l'.length = 8 + id.length := by rw [ht.1, List.length_drop]; omega
  have hk1 := h.1
  have hk2 := h.2.1
  have hcl := crcOf_lt hb
  have hne : crcOf (plainL id i s) ≠ crcOf ([72, id.length] ++ l') := by
    refine crcOf_burst (at' := a + 16) (t := t) hb ?_ (by simp [hl, hll]; omega) (by rw [hl]; omega) h1 h0 ?_
    · exact Bytes.app (fun x hx => by simp at hx; omega) ht.2.1
    · rw [hp2]
      rw [dg_append, dg_append, ht.2.2]
      have := xor_up (dg [72, id.length]) (dg ((plainL id i s).drop 2)) (t * 2 ^ a) 16 (by simp [dg]; omega)
      rw [show 8 * [72, id.length].length = 16 from rfl, this, Nat.mul_assoc, ← Nat.pow_add]
  obtain ⟨c, hc⟩ : ∃ c, crcOf (plainL id i s) = c := ⟨_, rfl⟩
  rw [hc] at hne hcl ⊢
  have g1 : ([72, id.length] ++ l' ++ fourL c).getD 1 0 = id.length := by simp [List.getD]
  have g0 : ([72, id.length] ++ l' ++ fourL c).getD 0 0 = 72 := by simp [List.getD]
  have gl : ([72, id.length] ++ l' ++ fourL c).length = 14 + id.length := by simp [hll, fourL_len]; omega
  have e10 : ([72, id.length] ++ l').length = 10 + id.length := by simp [hll]; omega
  unfold decE
  rw [g0, g1, gl, if_neg (by omega), if_neg (by omega), if_neg (by omega), if_neg (by omega), ← e10, List.take_left, List.drop_left, if_pos]
  have := numL_four hcl []
  rw [List.append_nil] at this
  rw [this]
  exact fun e => hne e.symm
end Go.Proofs.Ytamncanlbopehaa
