/-
  hist.Put, Join by counts; whole structs read under a guard.
-/
import Derived.Test.YtlnagfmaiabhaaaHc
import Derived.Test.YtlnagfmaiabhaaaHe
set_option linter.unusedSimpArgs false
set_option linter.unusedVariables false
namespace Go.Proofs.Ytlnagfmaiabhaaa
open Go Go.RowKit
theorem wpList_load_row' {P : Program} {ops : Array Oper} {rest : List Oper} {o : Oper} {a : Act} {w : World} {Q : Exit → Act → World → Prop} (hw : Region.wanted o (yielded ops a.tmps) = true) (ty : TypeId) (x : Operand) (ho : o.op = .load ty x)
    (g : Nat) (hx : a.eval x = .pointer (some ⟨g, 0, none⟩)) (t : TypeId) (cs : Array Value) (fr : Nat × Nat) (d : TypeDesc) (hg : w.heap[g]? = some (.cells cs t fr))
    (hu : P.underlying ty = some d) (hd : (match d with | .struct _ | .array _ _ => true | _ => false) = true) (hi : (P.info? ty).map (·.size) = some cs.size)
    (h : wpList P ops Q rest (a.put o.dst (.agg cs)) w) : wpList P ops Q (o :: rest) a w := by
  unfold wpList
  rw [if_pos hw]
  left
  exact wp_load_row ty x ho g hx t cs fr d hg hu hd hi h
theorem setRow_other {w : World} {g k : Nat} {cs : Array Value} (h : ¬ k = g) : (w.setRow g cs).heap[k]? = w.heap[k]? := by
  simp only [World.setRow, Array.getElem?_modify]
  rw [if_neg (fun e => h e.symm)]
theorem setRow_size (w : World) (g : Nat) (cs : Array Value) : (w.setRow g cs).heap.size = w.heap.size := by simp [World.setRow]
theorem hv_info (L : List Int) (h : L.length = 26) : Option.map (fun x => x.size) (Try.prog.info? 65) = some (hv L).size := by
  rw [hv_size, h]; exact (zero_of_info info48).2
theorem hput_hc (L : List Int) (x : Int) (w : World) (hL : L.length ≤ 1000000) (hx : 0 ≤ x ∧ x ≤ 16777216) :
    Calls Try.prog 37 #[.agg (hv (hc L)), .int .i64 x] w fun e w' => e = .returned (.tuple #[.agg (hv (hc (L ++ [x]))), .int .i64 0]) ∧ Below w.heap.size w w' := by
  rw [hc_snoc L x (bl_lt hx)]
  have hcp : L.countP (fun y => bl y == bl x) ≤ L.length := List.countP_le_length
  exact hput_ok (hc L) x _ (bl x) w (hc_len L) (hc_btw L (by omega)) hx rfl (bl_lt hx) rfl (by rw [hc_get L (bl_lt hx)]; omega)
theorem hjoin_hc (a b : List Int) (w : World) (h : a.length + b.length ≤ 1000000) :
    Calls Try.prog 39 #[.agg (hv (hc a)), .agg (hv (hc b))] w fun e w' => e = .returned (.tuple #[.agg (hv (hc (a ++ b))), .int .i64 0]) ∧ Below w.heap.size w w' :=
  hjoin_ok (hc a) (hc b) (hc (a ++ b)) w (hc_len a) (hc_len b) (hc_len _) (hc_btw a (by omega)) (hc_btw b (by omega)) (hc_btw _ (by rw [List.length_append]; omega)) (fun k hk => hc_app a b k hk)
/-- Where a value lies by its bits. -/
theorem bl_place {x : Int} (hx : 0 ≤ x ∧ x ≤ 16777216) : ∃ lo hi : Int, (if bl x = 0 then lo = 0 ∧ hi = 0 else lo = 2 ^ (bl x - 1) ∧ hi = min (2 ^ bl x - 1) 16777216) ∧ 0 ≤ lo ∧ lo ≤ x ∧ x ≤ hi ∧ hi ≤ 2 * lo ∧ lo ≤ 16777216 ∧ hi ≤ 16777216 := by
  rcases Int.lt_or_le 0 x with c | c
  · obtain ⟨k, e, hk, a, b⟩ := bl_pos (by omega : 1 ≤ x) hx.2
    rw [e]
    have e2 : (2 : Int) ^ (k + 1) = 2 * 2 ^ k := by rw [Int.pow_succ, Int.mul_comm]
    have hp := pow25 (k := k) (by omega)
    refine ⟨2 ^ k, min (2 ^ (k + 1) - 1) 16777216, ?_, by omega, a, by omega, by omega, by omega, by omega⟩
    rw [if_neg (by omega)]
    exact ⟨rfl, rfl⟩
  · obtain rfl : x = 0 := by omega
    refine ⟨0, 0, ?_, by omega, by omega, by omega, by omega, by omega, by omega⟩
    rw [if_pos bl_zero]
    exact ⟨rfl, rfl⟩
theorem cell_hv {w : World} {g : Nat} {c : Array Value} {T : TypeId} {fz : Nat × Nat} (h : w.heap[g]? = some (.cells c T fz)) (k : Nat) {v : Value} (hv : c[k]? = some v) : w.cell? ⟨g, k, none⟩ = some v := by
  rw [cell_of_row _ _ k _ _ _ h]; exact hv
theorem quietAt_load_row {P : Program} {o : Oper} {a : Act} {C : World → Prop} {w : World} (ty : TypeId) (x : Operand) (ho : o.op = .load ty x)
    (g : Nat) (hx : a.eval x = .pointer (some ⟨g, 0, none⟩)) (t : TypeId) (cs : Array Value) (fr : Nat × Nat) (d : TypeDesc) (hg : w.heap[g]? = some (.cells cs t fr))
    (hu : P.underlying ty = some d) (hd : (match d with | .struct _ | .array _ _ => true | _ => false) = true) (hi : (P.info? ty).map (·.size) = some cs.size) : o.quietAt P a C w (.agg cs) := by
  unfold Oper.quietAt execOp
  simp only [ho, hx, Instr.loadAt, Instr.sureAddr, Sem.run_bind, Sem.run_pure, Result.andThen_ok, run_loadVar_row w g t ty cs fr d hg hu hd hi]
  exact ⟨rfl, rfl⟩
/-- Four variables, one behind the other. -/
def Four (w : World) (b : Nat) (T : TypeId) (c0 c1 c2 c3 : Array Value) : Prop :=
  w.heap[b]? = some (.cells c0 T (0, 0)) ∧ w.heap[b + 1]? = some (.cells c1 T (0, 0)) ∧ w.heap[b + 1 + 1]? = some (.cells c2 T (0, 0)) ∧ w.heap[b + 1 + 1 + 1]? = some (.cells c3 T (0, 0))
theorem Four.below {w w' : World} {b B : Nat} {T : TypeId} {c0 c1 c2 c3 : Array Value} (h : Four w b T c0 c1 c2 c3) (hb : Below B w w') (hlt : b + 3 < B) : Four w' b T c0 c1 c2 c3 :=
  ⟨(hb.block _ (by omega)).trans h.1, (hb.block _ (by omega)).trans h.2.1, (hb.block _ (by omega)).trans h.2.2.1, (hb.block _ (by omega)).trans h.2.2.2⟩
theorem Four.set0 {w : World} {b : Nat} {T : TypeId} {c0 c1 c2 c3 : Array Value} (h : Four w b T c0 c1 c2 c3) (c : Array Value) : Four (w.setRow b c) b T c c1 c2 c3 :=
  ⟨setRow_at' h.1, (setRow_other (by omega)).trans h.2.1, (setRow_other (by omega)).trans h.2.2.1, (setRow_other (by omega)).trans h.2.2.2⟩
theorem Four.set1 {w : World} {b : Nat} {T : TypeId} {c0 c1 c2 c3 : Array Value} (h : Four w b T c0 c1 c2 c3) (c : Array Value) : Four (w.setRow (b + 1) c) b T c0 c c2 c3 :=
  ⟨(setRow_other (by omega)).trans h.1, setRow_at' h.2.1, (setRow_other (by omega)).trans h.2.2.1, (setRow_other (by omega)).trans h.2.2.2⟩
theorem Four.set2 {w : World} {b : Nat} {T : TypeId} {c0 c1 c2 c3 : Array Value} (h : Four w b T c0 c1 c2 c3) (c : Array Value) : Four (w.setRow (b + 1 + 1) c) b T c0 c1 c c3 :=
  ⟨(setRow_other (by omega)).trans h.1, (setRow_other (by omega)).trans h.2.1, setRow_at' h.2.2.1, (setRow_other (by omega)).trans h.2.2.2⟩
theorem Four.set3 {w : World} {b : Nat} {T : TypeId} {c0 c1 c2 c3 : Array Value} (h : Four w b T c0 c1 c2 c3) (c : Array Value) : Four (w.setRow (b + 1 + 1 + 1) c) b T c0 c1 c2 c :=
  ⟨(setRow_other (by omega)).trans h.1, (setRow_other (by omega)).trans h.2.1, (setRow_other (by omega)).trans h.2.2.1, setRow_at' h.2.2.2⟩
theorem Four.made {w W : World} {T : TypeId} {Z : Array Value} (hW : (((w.alloc (.cells Z T)).alloc (.cells Z T)).alloc (.cells Z T)).alloc (.cells Z T) = W) : Four W w.heap.size T Z Z Z Z ∧ Below w.heap.size w W ∧ W.heap.size = w.heap.size + 4 := by
  subst hW
  refine ⟨⟨?_, ?_, ?_, ?_⟩, ((((Below.refl _ w).alloc (Nat.le_refl _) _).alloc (by simp) _).alloc (by simp only [World.size_alloc]; omega) _).alloc (by simp only [World.size_alloc]; omega) _, by simp⟩
  · rw [Below.heap_alloc _ _ _ (by simp only [World.size_alloc]; omega), Below.heap_alloc _ _ _ (by simp only [World.size_alloc]; omega), Below.heap_alloc _ _ _ (by simp only [World.size_alloc]; omega)]; exact heap_alloc_last _ _
  · rw [Below.heap_alloc _ _ _ (by simp only [World.size_alloc]; omega), Below.heap_alloc _ _ _ (by simp only [World.size_alloc]; omega)]
    have := heap_alloc_last (w.alloc (.cells Z T)) (.cells Z T); rwa [World.size_alloc] at this
  · rw [Below.heap_alloc _ _ _ (by simp)]
    have := heap_alloc_last ((w.alloc (.cells Z T)).alloc (.cells Z T)) (.cells Z T); rwa [World.size_alloc, World.size_alloc] at this
  · have := heap_alloc_last (((w.alloc (.cells Z T)).alloc (.cells Z T)).alloc (.cells Z T)) (.cells Z T); rwa [World.size_alloc, World.size_alloc, World.size_alloc] at this
theorem frozen_row {w : World} {g : Nat} {c : Array Value} {T : TypeId} (h : w.heap[g]? = some (.cells c T (0, 0))) (k : Nat) : w.frozen? ⟨g, k, none⟩ = false := by simp [World.frozen?, h]
theorem hc_zero : Array.replicate 26 (Value.int .i64 0) = hv (hc []) := by rw [hc_nil]; rfl
theorem hc_five : (hv (hc [5]))[3]? = some (.int .i64 1) := by
  rw [hv_get (hc [5]) (k := 3) (by rw [hc_len]; omega), hc_get [5] (k := 3) (by omega)]
  rfl
end Go.Proofs.Ytlnagfmaiabhaaa
