/-
  A map[string]int that the call makes: what it says at each name.
-/
import Derived.Test.YtpomdnglknbanaaKs
import Derived.Maps.Own
import Derived.Maps.Views
import Derived.StringKeys
set_option linter.unusedSimpArgs false
set_option linter.unusedVariables false
namespace Go.Proofs.Ytpomdnglknbanaa
open Go Go.RowKit Go.Maps
open Go.WideMaps (keyOf_string_mk)
theorem i64_wf {c : Int} (h : -9223372036854775808 ≤ c ∧ c ≤ 9223372036854775807) : (Lit.int .i64 c).wf = true := WalkArith.wf_i64 h
theorem str_law : Keyed Try.prog 9 := string_keyed Try.underlying9
def MapI (w : World) (B n : Nat) (F : ByteArray → Int) : Prop :=
  ∃ D : DataW Unit, w.ownsMap Try.prog 9 (plainElem Try.prog 3) B n D ∧ ∀ id : ByteArray, D.atKey (.string id.data.toList) (.lit (.int .i64 0)) = .lit (.int .i64 (F id))
theorem MapI.made (w : World) : MapI (w.alloc (.map #[] 0)) w.heap.size 0 (fun _ => 0) :=
  ⟨.map [], World.ownsMap_made _ _ _ _, fun _ => rfl⟩
theorem MapI.lt {w : World} {B n : Nat} {F : ByteArray → Int} (h : MapI w B n F) : B < w.heap.size := by obtain ⟨D, h1, _⟩ := h; exact h1.lt
theorem MapI.same {w w' : World} {B n : Nat} {F : ByteArray → Int} (h : MapI w B n F) (hs : w'.heap[B]? = w.heap[B]?) : MapI w' B n F := by
  obtain ⟨D, ⟨es, clock, h1, h2⟩, h3⟩ := h
  exact ⟨D, ⟨es, clock, hs.trans h1, h2⟩, h3⟩
theorem MapI.look {w : World} {B n : Nat} {F : ByteArray → Int} (h : MapI w B n F) {id : ByteArray} (hid : id.size ≤ maxLen) :
    (Instr.lookup 94 (.map (some B)) (.string id) false).run Try.prog w = .ok (.int .i64 (F id)) w := by
  obtain ⟨D, h1, h2⟩ := h
  obtain ⟨c, hrun, hat, _⟩ := h1.lookup_int str_law Try.underlying94 Try.underlying3 (Try.zeroValue3 w) (keyOf_string_mk Try.underlying9 hid)
  rw [h2] at hat
  simp only [DataW.lit.injEq, Lit.int.injEq, true_and] at hat
  rw [hat]
  exact hrun
theorem MapI.put {w : World} {B n : Nat} {F : ByteArray → Int} (h : MapI w B n F) (hn : n < maxLen) {id : ByteArray} (hid : id.size ≤ maxLen) {c : Int} (hc : (Lit.int .i64 c).wf = true) :
    ∃ w', (Instr.mapUpdate 94 (.map (some B)) (.string id) (.int .i64 c)).run Try.prog w = .ok () w' ∧ MapI w' B (n + 1) (fun x => if x = id then c else F x) ∧ w.grownBy w' (some B) := by
  obtain ⟨D, h1, h2⟩ := h
  obtain ⟨w', hrun, hown, hg⟩ := h1.update str_law Try.underlying94 hn (keyOf_string_mk Try.underlying9 hid) (plainElem_int Try.underlying3 hc)
  refine ⟨w', hrun, ⟨_, hown, fun x => ?_⟩, hg⟩
  by_cases e : x = id
  · subst e
    dsimp only
    rw [if_pos rfl, atKey_put_same h1.isMap (by exact trivial)]
  · dsimp only
    rw [if_neg e, atKey_put_other (fun he => e (by
      simp only [Lit.string.injEq] at he
      exact ByteArray.ext (Array.toList_inj.1 he)))]
    exact h2 x
theorem wpList_mapI {w : World} {ops : Array Oper} {rest : List Oper} {o : Oper} {a : Act} {Q : Exit → Act → World → Prop} (hg : o.guard = none) (m x v : Operand) (hop : o.op = Op.mapUpdate 94 m x v)
    {B n : Nat} {F : ByteArray → Int} (hm : a.eval m = .map (some B)) (h : MapI w B n F) (hn : n < maxLen) (id : ByteArray) (c : Int) (hx : a.eval x = .string id) (hv : a.eval v = .int .i64 c) (hid : id.size ≤ maxLen) (hc : (Lit.int .i64 c).wf = true)
    (hK : ∀ w', MapI w' B (n + 1) (fun x => if x = id then c else F x) → w.grownBy w' (some B) → wpList Try.prog ops Q rest (a.put o.dst undef) w') :
    wpList Try.prog ops Q (o :: rest) a w := by
  refine wpList_plain hg fun K' hK' => ?_
  obtain ⟨w', hrun, r1, r2⟩ := h.put hn hid hc
  unfold Oper.wp
  simp [execOp, hop, hm, hx, hv, hrun, Result.andThen]
  exact hK' _ _ (hK w' r1 r2)
end Go.Proofs.Ytpomdnglknbanaa
