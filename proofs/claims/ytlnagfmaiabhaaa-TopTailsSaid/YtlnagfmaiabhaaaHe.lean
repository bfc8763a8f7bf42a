/-
  A Hist is equal to itself.
-/
import Derived.Test.YtlnagfmaiabhaaaHi
import Derived.Laws.StructEq
set_option linter.unusedSimpArgs false
set_option linter.unusedVariables false
namespace Go.Proofs.Ytlnagfmaiabhaaa
open Go
theorem run_equalIn_ints (w : World) (d : Nat) (t e : TypeId) (n : Nat) {P : Program} (ht : P.underlying t = some (.array n e)) (he : P.underlying e = some (.int .i64)) (hsz : ∀ w, (sizeOf e).run P w = .ok 1 w)
    (xs : List Int) (hx : xs.length = n) :
    (Op.equalIn (d + 2) t (.agg (hv xs)) (.agg (hv xs))).run P w = .ok true w := by
  rw [Op.equalIn]
  simp only [Sem.run_bind, run_underlying ht, Result.andThen_ok, hsz, Std.Legacy.Range.forIn_eq_forIn_range', Std.Legacy.Range.size, Nat.sub_zero, Nat.add_sub_cancel, Nat.div_one]
  have hl : ∀ i ∈ List.range' 0 n 1, i < n := fun i hi => by simpa using (List.mem_range'_1.1 hi).2
  generalize List.range' 0 n 1 = l at hl ⊢
  induction l with
  | nil => simp
  | cons i l ih =>
    have hi : i < n := hl i (by simp)
    have px : (part e (hv xs) (i * 1)).run P w = .ok (.int .i64 (xs.getD i 0)) w := by
      simp [part, isAgg, run_underlying he, hv_get xs (show i < xs.length by omega)]
    have pe : (Op.equalIn (d + 1) e (.int .i64 (xs.getD i 0)) (.int .i64 (xs.getD i 0))).run P w = .ok true w := by
      rw [run_equalIn_int w d e .i64 .i64 _ _ he]
      simp
    simp only [List.forIn_cons, Sem.run_bind, px, pe, Result.andThen_ok]
    simp only [Bool.not_true, Bool.false_eq_true, if_false, Sem.run_pure, Result.andThen_ok]
    exact ih fun j hj => hl j (by simp [hj])
theorem hist_fields (w : World) (d : Nat) (l : List Int) (hl : l.length = 26) (pp : (part 63 (hv l) 0).run Try.prog w = .ok (.agg (hv l)) w) :
    (Op.eqFields (d + 2) (hv l) (hv l) [{ name := "Counts", type := 63, offset := 0, embedded := false, tag := "", pkgPath := "", byteOffset := 0 }]).run Try.prog w = .ok true w := by
  have he := run_equalIn_ints w d _ 3 26 Try.underlying63 Try.underlying3 (fun w => Try.sizeOf3 w) l hl
  simp [Op.eqFields, Sem.run_bind, pp, he, Result.andThen]
theorem hist_eq (w : World) (l : List Int) (hl : l.length = 26) : (Go.binOp .eql 65 (.agg (hv l)) (.agg (hv l))).run Try.prog w = .ok (.bool true) w := by
  have t46 := Try.underlying63
  have t48 := Try.underlying65
  have hf : Try.prog.fieldsOf 65 = #[{ name := "Counts", type := 63, offset := 0, embedded := false, tag := "", pkgPath := "", byteOffset := 0 }] := by
    simp [Program.fieldsOf, t48]
  have hp : Try.prog.stoodInHeld 65 = false := by kernel_rfl
  have hsz := hv_size l
  rw [hl] at hsz
  have pp : (part 63 (hv l) 0).run Try.prog w = .ok (.agg (hv l)) w := by
    obtain ⟨_, hi⟩ := zero_of_info info46
    cases hq : Try.prog.info? 63 with
    | none => simp [hq] at hi
    | some i =>
      have hs : i.size = 26 := by simpa [hq] using hi
      simp [part, isAgg, run_underlying t46, sizeOf, typeInfo, hq, hs, Sem.run_bind, Result.andThen]
      rw [← hsz]
      simp
  rw [run_eql_struct, run_equalIn_struct w 9999 _ _ _ (by rw [hf]; exact t48) hp, hf]
  rw [show (9999 : Nat) = 9997 + 2 from rfl, hist_fields w 9997 l hl pp]
  rfl
end Go.Proofs.Ytlnagfmaiabhaaa
