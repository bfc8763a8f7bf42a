
import Derived.Test.YtlnagfmaiabhaaaLranknear
import Derived.Test.YtlnagfmaiabhaaaIs
set_option linter.unusedSimpArgs false
set_option linter.unusedVariables false
namespace Go.Proofs.Ytlnagfmaiabhaaa
open Go.RowKit
theorem srt_srt (l : List Int) : srt (srt l) = srt l := srt_same (srt_perm l)
theorem rot_perm (l : List Int) (t : Nat) : (l.drop t ++ l.take t).Perm l := List.perm_append_comm.trans (by rw [List.take_append_drop])
theorem rot_get (l : List Int) {t k n : Nat} (hn : l.length = n) (ht : t < n) (hk : k < n) : (l.drop t ++ l.take t).getD k 0 = l.getD ((k + t) % n) 0 := by
  by_cases h : k + t < n
  · rw [Nat.mod_eq_of_lt h]
    simp [List.getD, List.getElem?_append, List.getElem?_drop, show k < l.length - t by omega, Nat.add_comm, show t + k < l.length by omega]
  · have e : (k + t) % n = k + t - n := by rw [Nat.mod_eq_sub_mod (by omega), Nat.mod_eq_of_lt (by omega)]
    rw [e]
    simp only [List.getD, List.getElem?_append, List.length_drop, show ¬ k < l.length - t by omega, if_false, List.getElem?_take, show k - (l.length - t) < t by omega, if_true]
    rw [show k - (l.length - t) = k + t - n by omega]
def ceq (v : Int) (l : List Int) : Int := cnt v l - cnt (v + 1) l
theorem ceq_snoc (v : Int) (l : List Int) {k : Nat} (h : k < l.length) : ceq v (l.take (k + 1)) = ceq v (l.take k) + if l.getD k 0 = v then 1 else 0 := by
  unfold ceq
  rw [cnt_snoc v l h, cnt_snoc (v + 1) l h]
  split <;> split <;> split <;> omega
theorem ceq_bd (v : Int) (l : List Int) : 0 ≤ ceq v l ∧ ceq v l ≤ l.length := by
  have := cnt_bd v l
  have := cnt_bd (v + 1) l
  have := cnt_anti (show v ≤ v + 1 by omega) l
  unfold ceq; omega

end Go.Proofs.Ytlnagfmaiabhaaa
