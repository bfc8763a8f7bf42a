/-
  What the laws of marks share: turns and all that is asked of them; rows written out.
-/
import Derived.Test.YtamncanlbopehaaMo
set_option linter.unusedSimpArgs false
set_option linter.unusedVariables false
namespace Go.Proofs.Ytamncanlbopehaa
open Go.RowKit

/-- Turns of the statements' own, an end no sooner than the last, and what comes out. -/
theorem marks_pack (ts : List Int) (n : Nat) (F : Int) (hn : ts.length = n) (hm : Mono ts F) : ∃ B G : Int, bdS (ts ++ [F]) (n + 1) = B ∧ gdS (ts ++ [F]) (n + 1) = G ∧ B + G = F ∧ 0 ≤ B ∧ 0 ≤ G := by
  have h1 := bd_nonneg hm.append (k := n + 1) (by simp [hn])
  have h2 := bd_gd (ts ++ [F]) (n + 1)
  rw [bef_succ, ← hn, get_last] at h2
  rw [hn] at h2
  exact ⟨_, _, rfl, rfl, h2, h1.1, h1.2⟩
theorem mof_at (A : Option Addr) (n c : Nat) (l : List Int) (e B G T : Int) (w : World) (h : InTurns w A n c l) (hm : n ≤ 64) (hl : Mono l e) (he : e ≤ 1073741824) (hB : bdS (l ++ [e]) (n + 1) = B) (hG : gdS (l ++ [e]) (n + 1) = G) (hT : ((n + 1) / 2 : Nat) = T) :
    Calls Try.prog 25 #[.slice A n c, .int .i64 e] w fun x w' => x = .returned (.tuple #[.agg #[.int .i64 T, .int .i64 B, .int .i64 G], .int .i64 0]) ∧ Below w.heap.size w w' := by
  subst hB hG hT
  exact mof_ok A n c l e w h hm hl he
theorem InTurns.below {w w' : World} {A : Option Addr} {n c : Nat} {l : List Int} (h : InTurns w A n c l) (hb : Below w.heap.size w w') : InTurns w' A n c l := ⟨h.1.below hb, h.2⟩
theorem in_nil (w : World) : InTurns w none 0 0 [] := ⟨⟨rfl, fun h => absurd h (by omega)⟩, Nat.le_refl _, Nat.zero_le _, fun _ => ⟨rfl, rfl⟩⟩
theorem in_one (w : World) (t : Int) : InTurns (w.alloc (.cells #[.int .i64 t, .bool true] 47)) (some ⟨w.heap.size, 0, none⟩) 1 1 [t] := by
  refine ⟨⟨rfl, fun _ => ⟨w.heap.size, 0, rfl, by simp, fun k hk => ?_⟩⟩, Nat.le_refl _, by decide, fun h => by cases h⟩
  obtain rfl : k = 0 := by omega
  constructor
  · rw [World.cell?_alloc_new]; rfl
  · rw [World.cell?_alloc_new]; rfl
theorem in_two (w : World) (t u : Int) : InTurns (w.alloc (.cells #[.int .i64 t, .bool true, .int .i64 u, .bool false] 47)) (some ⟨w.heap.size, 0, none⟩) 2 2 [t, u] := by
  refine ⟨⟨rfl, fun _ => ⟨w.heap.size, 0, rfl, by simp, fun k hk => ?_⟩⟩, Nat.le_refl _, by decide, fun h => by cases h⟩
  rcases (by omega : k = 0 ∨ k = 1) with rfl | rfl
  · constructor
    · rw [World.cell?_alloc_new]; rfl
    · rw [World.cell?_alloc_new]; rfl
  · constructor
    · rw [World.cell?_alloc_new]; rfl
    · rw [World.cell?_alloc_new]; rfl
end Go.Proofs.Ytamncanlbopehaa
