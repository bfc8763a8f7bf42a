
/-
  Package beat, for the laws: what is written and read, whatever comes.
-/
import Derived.Test.YtlnagfmaiabhaaaDe2
set_option linter.unusedSimpArgs false
set_option linter.unusedVariables false
namespace Go.Proofs.Ytlnagfmaiabhaaa
open Go.RowKit

theorem encode_cases (s : ByteArray) (i q : Int) (hm : s.size ≤ maxLen) :
    (∃ I Q : Nat, i = I ∧ q = Q ∧ BOK (byts s) I Q ∧ ∀ w, Calls Try.prog 71 #[.agg #[.string s, .int .i64 i, .int .i64 q]] w fun e w' => e = .returned (.tuple #[.string (mkB (encL (byts s) I Q)), .int .i64 0]) ∧ Below w.heap.size w w') ∨
    (∃ k : Int, (k = 1 ∨ k = 3) ∧ ∀ w, Calls Try.prog 71 #[.agg #[.string s, .int .i64 i, .int .i64 q]] w fun e w' => e = .returned (.tuple #[.string ⟨#[]⟩, .int .i64 k]) ∧ Below w.heap.size w w') := by
  unfold maxLen at hm
  by_cases h : IdOK (byts s) ∧ (0 ≤ i ∧ i < 2147483648) ∧ 1 ≤ q ∧ q < 2147483648
  · obtain ⟨h1, h2, h3⟩ := h
    obtain ⟨I, rfl⟩ := Int.eq_ofNat_of_zero_le h2.1
    obtain ⟨Q, rfl⟩ := Int.eq_ofNat_of_zero_le (show 0 ≤ q by omega)
    have hb : BOK (byts s) I Q := ⟨h1, by omega, by omega, by omega⟩
    exact .inl ⟨I, Q, rfl, rfl, hb, fun w => encode_ok s I Q w hb⟩
  · exact .inr (encode_bad s i q (by omega) h)

/-- What is read of what was written. -/
theorem decode_enc (s : ByteArray) (i q : Nat) (w : World) (h : BOK (byts s) i q) :
    Calls Try.prog 33 #[.string (mkB (encL (byts s) i q))] w fun e w' => e = .returned (.tuple #[.agg #[.string s, .int .i64 i, .int .i64 q], .int .i64 0]) ∧ Below w.heap.size w w' := by
  obtain ⟨d0, d1, d2, d3⟩ := dec_enc h
  obtain ⟨hid, hi, hq1, hq2⟩ := h
  have hbb : byts (mkB (encL (byts s) i q)) = encL (byts s) i q := byts_mkB (encL_bytes hid)
  have g1 : (encL (byts s) i q).getD 1 0 = (byts s).length := by simp [encL, plainL, List.getD]
  have ei : (mkB (encL (byts s) i q)).extract 2 (2 + (byts s).length) = s := by
    rw [← mkB_byts ((mkB (encL (byts s) i q)).extract 2 (2 + (byts s).length)), byts_ext, hbb]
    have : ((encL (byts s) i q).take (2 + (byts s).length)).drop 2 = byts s := by
      rw [List.drop_take, show 2 + (byts s).length - 2 = (byts s).length by omega]
      have := d1
      unfold decId at this
      rwa [g1] at this
    rw [this, mkB_byts]
  have := decode_mid (mkB (encL (byts s) i q)) 0 w (by rw [hbb]; exact d0) (fun w' => by
    rw [hbb, g1, d2, d3, ei]
    exact bcheck_ok s i q w' hid (by omega) (by omega))
  rw [hbb, g1, d2, d3, ei, if_pos rfl, if_pos rfl] at this
  exact this

theorem decode_cases (s : ByteArray) (hm : s.size ≤ maxLen) :
    (∃ n : Nat, n ≠ 0 ∧ (decE (byts s) ≠ 0 → n = decE (byts s)) ∧ ∀ w, Calls Try.prog 33 #[.string s] w fun e w' => e = .returned (.tuple #[.agg #[.string ⟨#[]⟩, .int .i64 0, .int .i64 0], .int .i64 n]) ∧ Below w.heap.size w w') ∨
    (∃ (id : ByteArray) (i q : Nat), BOK (byts id) i q ∧ s = mkB (encL (byts id) i q)) := by
  unfold maxLen at hm
  by_cases h : decE (byts s) = 0
  · obtain ⟨p1, p2, p3, p4, p5⟩ := dec_parts (byts_bytes s) h
    obtain ⟨id, hid⟩ : ∃ id, s.extract 2 (2 + (byts s).getD 1 0) = id := ⟨_, rfl⟩
    have hbi : byts id = decId (byts s) := by
      rw [← hid, byts_ext, List.drop_take]
      unfold decId
      rw [show 2 + (byts s).getD 1 0 - 2 = (byts s).getD 1 0 by omega]
    have hsz : id.size ≤ 8 := by rw [← byts_len, hbi, p2]; exact p4
    by_cases hb : BOK (byts id) (decI (byts s)) (decS (byts s))
    · exact .inr ⟨id, _, _, hb, by rw [hbi, p1, mkB_byts]⟩
    · refine .inl ⟨3, by omega, fun h' => absurd h h', fun w => ?_⟩
      have : ∃ n : Int, n ≠ 0 ∧ ∀ w', Calls Try.prog 75 #[.agg #[.string id, .int .i64 (decI (byts s)), .int .i64 (decS (byts s))]] w' fun e w'' => e = .returned (.int .i64 n) ∧ Below w'.heap.size w' w'' := by
        by_cases c : IdOK (byts id)
        · exact ⟨1, by omega, fun w' => bcheck_arg id _ _ w' c (fun hh => hb ⟨c, by omega, by omega, by omega⟩)⟩
        · exact ⟨3, by omega, fun w' => bcheck_form id _ _ w' (by omega) c⟩
      obtain ⟨n, hn, hc⟩ := this
      have := decode_mid s n w h (fun w' => by rw [hid]; exact hc w')
      rw [if_neg hn, if_neg hn] at this
      exact this
  · exact .inl ⟨decE (byts s), h, fun _ => rfl, fun w => decode_bad s _ w (by omega) rfl h⟩

end Go.Proofs.Ytlnagfmaiabhaaa
