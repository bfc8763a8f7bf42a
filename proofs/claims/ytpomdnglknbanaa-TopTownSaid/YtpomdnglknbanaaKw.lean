/-
  Maps that the call makes, of integers and of Booleans, at keys of any kind; keys that are a name and a number.
-/
import Derived.Test.YtpomdnglknbanaaKs
import Derived.Maps.Own
import Derived.Maps.Views
import Derived.StringKeys
import Derived.DeepKeys4
set_option linter.unusedSimpArgs false
set_option linter.unusedVariables false
namespace Go.Proofs.Ytpomdnglknbanaa
open Go Go.RowKit Go.Maps
open Go.WideMaps (keyOf_string_mk)
def MapB (k : TypeId) (w : World) (B n : Nat) (F : Value → Bool) : Prop :=
  ∃ D : DataW Unit, w.ownsMap Try.prog k (plainElem Try.prog 4) B n D ∧ ∀ key l, keyOf Try.prog k key = some l → D.atKey l (.lit (.bool false)) = .lit (.bool (F key))
theorem MapB.made (k : TypeId) (w : World) : MapB k (w.alloc (.map #[] 0)) w.heap.size 0 (fun _ => false) :=
  ⟨.map [], World.ownsMap_made _ _ _ _, fun _ _ _ => rfl⟩
theorem MapB.lt {k : TypeId} {w : World} {B n : Nat} {F : Value → Bool} (h : MapB k w B n F) : B < w.heap.size := by obtain ⟨D, h1, _⟩ := h; exact h1.lt
theorem MapB.same {k : TypeId} {w w' : World} {B n : Nat} {F : Value → Bool} (h : MapB k w B n F) (hs : w'.heap[B]? = w.heap[B]?) : MapB k w' B n F := by
  obtain ⟨D, ⟨es, clock, h1, h2⟩, h3⟩ := h
  exact ⟨D, ⟨es, clock, hs.trans h1, h2⟩, h3⟩
theorem plain_bool {P : Program} {e : TypeId} (he : P.underlying e = some .bool) {v : Value} {z : DataW Unit × List MemPlace} (h : plainElem P e v = some z) : ∃ x, v = .bool x ∧ z = (.lit (.bool x), []) := by
  unfold plainElem at h
  rw [he] at h
  cases v <;> simp at h
  rename_i x
  exact ⟨x, rfl, h.symm⟩
theorem MapB.look {k T : TypeId} {w : World} {B n : Nat} {F : Value → Bool} (h : MapB k w B n F) (K : Keyed Try.prog k) (ht : Try.prog.underlying T = some (.map k 4)) {key : Value} {l : Lit} (hkey : keyOf Try.prog k key = some l) :
    (Instr.lookup T (.map (some B)) key false).run Try.prog w = .ok (.bool (F key)) w := by
  obtain ⟨D, h1, h2⟩ := h
  obtain ⟨v, ps, hrun, hv⟩ := h1.lookup K ht (Try.zeroValue4 w) (plainElem_bool Try.underlying4 false) hkey
  obtain ⟨x, rfl, hx⟩ := plain_bool Try.underlying4 hv
  simp only [Prod.mk.injEq] at hx
  have := hx.1
  rw [h2 key l hkey] at this
  simp only [DataW.lit.injEq, Lit.bool.injEq] at this
  rw [this]
  exact hrun
open Classical in
theorem MapB.put {k T : TypeId} {w : World} {B n : Nat} {F : Value → Bool} (h : MapB k w B n F) (K : Keyed Try.prog k) (ht : Try.prog.underlying T = some (.map k 4)) (hn : n < maxLen) {key : Value} {l : Lit} (hkey : keyOf Try.prog k key = some l) (c : Bool) :
    ∃ w', (Instr.mapUpdate T (.map (some B)) key (.bool c)).run Try.prog w = .ok () w' ∧ MapB k w' B (n + 1) (fun x => if x = key then c else F x) ∧ w.grownBy w' (some B) := by
  obtain ⟨D, h1, h2⟩ := h
  obtain ⟨w', hrun, hown, hg⟩ := h1.update K ht hn hkey (plainElem_bool Try.underlying4 c)
  refine ⟨w', hrun, ⟨_, hown, fun x lx hx => ?_⟩, hg⟩
  by_cases e : x = key
  · subst e
    dsimp only
    rw [hkey] at hx
    cases hx
    rw [if_pos rfl, atKey_put_same h1.isMap (K.key hkey)]
  · dsimp only
    rw [if_neg e, atKey_put_other (fun he => e (by subst he; exact K.inj hx hkey))]
    exact h2 x lx hx
open Classical in
theorem wpList_mapB {k T : TypeId} {w : World} {ops : Array Oper} {rest : List Oper} {o : Oper} {a : Act} {Q : Exit → Act → World → Prop} (hg : o.guard = none) (m x v : Operand) (hop : o.op = Op.mapUpdate T m x v)
    {B n : Nat} {F : Value → Bool} (hm : a.eval m = .map (some B)) (h : MapB k w B n F) (K : Keyed Try.prog k) (ht : Try.prog.underlying T = some (.map k 4)) (hn : n < maxLen) (key : Value) (c : Bool) (hx : a.eval x = key) (hv : a.eval v = .bool c) {l : Lit} (hkey : keyOf Try.prog k key = some l)
    (hK : ∀ w' F', F' key = c → (∀ x, x ≠ key → F' x = F x) → MapB k w' B (n + 1) F' → w.grownBy w' (some B) → wpList Try.prog ops Q rest (a.put o.dst undef) w') :
    wpList Try.prog ops Q (o :: rest) a w := by
  refine wpList_plain hg fun K' hK' => ?_
  obtain ⟨w', hrun, r1, r2⟩ := h.put K ht hn hkey c
  unfold Oper.wp
  simp [execOp, hop, hm, hx, hv, hrun, Result.andThen]
  exact hK' _ _ (hK w' _ (if_pos rfl) (fun x hx => if_neg hx) r1 r2)
/-! A name and a number. -/
def whoV (id : ByteArray) (th : Int) : Value := .agg #[.string id, .int .i64 th]
theorem laid0 : laidOutB Try.prog = true := by kernel_rfl
theorem who_law : Keyed Try.prog 98 := Keyed.of_law (deep_law_laid laid0 (m := 2) (by omega) (of_decide_eq_true (by kernel_rfl)) (by kernel_rfl) (by kernel_rfl))
theorem who_key {id : ByteArray} {th : Int} (hid : id.size ≤ maxLen) (hth : (Lit.int .i64 th).wf = true) : ∃ l, keyOf Try.prog 98 (whoV id th) = some l := by
  have hkt : Try.prog.keyType 98 = true := by kernel_rfl
  have hc : Try.prog.cellsOf 98 = 2 := by kernel_rfl
  have hs : Try.prog.cellsOf 9 = 1 := by kernel_rfl
  have hi : Try.prog.cellsOf 3 = 1 := by kernel_rfl
  have hf : (whoV id th).formed Try.prog 98 = true := by simp [Value.formed, whoV, Try.underlying98, hc]
  have hcs : (whoV id th).cells.toList = [.string id, .int .i64 th] := rfl
  have hl : ∀ d, ∃ ls, Try.prog.keyLits (d + 2) 98 [.string id, .int .i64 th] = some ls := fun d => by
    simp [Program.keyLits, Try.underlying98, Try.underlying9, Try.underlying3, hc, hs, hi, hid, hth]
  have hpos : 0 < Try.prog.types.size := of_decide_eq_true (by kernel_rfl)
  obtain ⟨d, hd⟩ : ∃ d, Try.prog.types.size = d + 1 := ⟨Try.prog.types.size - 1, by omega⟩
  obtain ⟨ls, hls⟩ := hl d
  unfold keyOf
  rw [Try.underlying98]
  simp only [hkt, hf, Bool.and_self, if_true, hcs, hd, hls]
  exact ⟨_, rfl⟩
end Go.Proofs.Ytpomdnglknbanaa
