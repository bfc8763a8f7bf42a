/-
  A region that draws its order, whatever it makes: reads, calls, new blocks, stores into them. One walk in the order of the text serves every order; what a block's number is stays open (B), and each operation tells which blocks it touches (foot).
-/
import Derived.Test.YtpomdnglknbanaaGreatQA
set_option linter.unusedSimpArgs false
set_option linter.unusedVariables false
namespace Go.Proofs.YtpomdnglknbanaaGreat
open Go Go.RowKit

/-- Which block, or which value, an operation has made. -/
abbrev BN := Nat → Nat × Value
/-- What was made: a block of cells; or what a call has handed back and that G says. -/
inductive Res where
  | cells (z : BN → Array Value) (T : TypeId)
  | own (G : Value → World → Prop)
abbrev Ress := Nat → Option Res
def Ress.put (β : Ress) (k : Nat) (r : Res) : Ress := fun j => if j = k then some r else β j
theorem Ress.put_def (β : Ress) (k : Nat) (r : Res) : β.put k r = fun j => if j = k then some r else β j := rfl
def ptrOf (b : Nat) : Value := .pointer (some ⟨b, 0, none⟩)
def slcOf (n : Nat) (b : Nat) : Value := .slice (some ⟨b, 0, none⟩) n n
def updo (β : Ress) : Option (Nat × Res) → Ress
  | none => β
  | some (k, r) => β.put k r
theorem updo_out {β : Ress} {u : Option (Nat × Res)} {F : List Nat} (hu : ∀ k r, u = some (k, r) → k ∈ F) {j : Nat} (hj : j ∉ F) : updo β u j = β j := by
  cases u with
  | none => rfl
  | some x =>
    obtain ⟨k, r⟩ := x
    have : j ≠ k := fun e => hj (e ▸ hu k r rfl)
    simp [updo, Ress.put, this]
theorem updo_comm {β : Ress} {u u' : Option (Nat × Res)} {F F' : List Nat} (hu : ∀ k r, u = some (k, r) → k ∈ F) (hu' : ∀ k r, u' = some (k, r) → k ∈ F') (hd : ∀ k ∈ F, k ∉ F') :
    updo (updo β u) u' = updo (updo β u') u := by
  cases u with
  | none => rfl
  | some x =>
    cases u' with
    | none => rfl
    | some y =>
      obtain ⟨k, r⟩ := x
      obtain ⟨k', r'⟩ := y
      have hne : k ≠ k' := fun e => hd k (hu k r rfl) (e ▸ hu' k' r' rfl)
      funext j
      simp only [updo, Ress.put]
      by_cases h1 : j = k'
      · subst h1; simp [Ne.symm hne]
      · simp [h1]

/-- Several cells of a block. -/
def putMany (z : Array Value) (l : List (Nat × Value)) : Array Value := l.foldl (fun z p => z.setIfInBounds p.1 p.2) z
def setMany (w : World) (b : Nat) (l : List (Nat × Value)) : World := l.foldl (fun w p => w.setCell ⟨b, p.1, none⟩ p.2) w
def Cont {α : Type} (F : List Nat) (v : BN → α) : Prop := ∀ B B' : BN, (∀ k ∈ F, B k = B' k) → v B = v B'
def ContD {α : Type} (β : Ress) (v : BN → α) : Prop := ∀ B B' : BN, (∀ k, β k ≠ none → B k = B' k) → v B = v B'
def Stable (G : Value → World → Prop) : Prop := ∀ u w w', G u w → Below w.heap.size w w' → G u w'

section
variable {P : Program} {ops : Array Oper} {md : Region.Mode} {W : World} {st : Bool}

def fitsRes (W : World) (B : BN) (k : Nat) (w : World) : Res → Prop
  | .cells z T => W.heap.size ≤ (B k).1 ∧ w.heap[(B k).1]? = some (.cells (z B) T)
  | .own G => G (B k).2 w
theorem fitsRes.congr {B B' : BN} {k : Nat} {w : World} {r : Res} (hz : ∀ z T, r = .cells z T → z B = z B') (hk : B' k = B k) (h : fitsRes W B k w r) : fitsRes W B' k w r := by
  cases r with
  | cells z T => simp only [fitsRes] at *; rw [hk, ← hz z T rfl]; exact h
  | own G => simp only [fitsRes] at *; rw [hk]; exact h
structure StF (W : World) (F : List Nat) (β : Ress) (B : BN) (w : World) : Prop where
  below : Below W.heap.size W w
  fits : ∀ k r, k ∈ F → β k = some r → fitsRes W B k w r
structure StA (W : World) (st : Bool) (β : Ress) (B : BN) (w : World) : Prop where
  below : Below W.heap.size W w
  fits : ∀ k r, β k = some r → fitsRes W B k w r
  inj : ∀ k k' z T z' T', β k = some (.cells z T) → β k' = some (.cells z' T') → (B k).1 = (B k').1 → k = k'
  pure : st = true → ∀ k r, β k = some r → ∃ z T, r = .cells z T
  stab : ∀ k G, β k = some (.own G) → Stable G
theorem StA.toF {β : Ress} {B : BN} {w : World} (h : StA W st β B w) (F : List Nat) : StF W F β B w := ⟨h.below, fun k r _ hk => h.fits k r hk⟩
theorem StF.of_eq {β β' : Ress} {B : BN} {w : World} {F : List Nat} (h : StF W F β B w) (he : ∀ k ∈ F, β' k = β k) : StF W F β' B w := ⟨h.below, fun k r hk hr => h.fits k r hk (by rw [← he k hk]; exact hr)⟩
theorem lt_of_some {w : World} {b : Nat} {x : Obj} (h : w.heap[b]? = some x) : b < w.heap.size := by
  rcases Nat.lt_or_ge b w.heap.size with h' | h'
  · exact h'
  · simp [Array.getElem?_eq_none h'] at h
theorem StA.step {β : Ress} {B : BN} {w w' : World} (h : StA W st β B w) (hb : Below w.heap.size w w') : StA W st β B w' := by
  refine ⟨h.below.trans (hb.mono h.below.size), fun k r hk => ?_, h.inj, h.pure, h.stab⟩
  have hf := h.fits k r hk
  cases r with
  | cells z T => exact ⟨hf.1, by rw [hb.block _ (lt_of_some hf.2)]; exact hf.2⟩
  | own G => exact h.stab k G hk _ _ _ hf hb

theorem StA.setOne {β : Ress} {B : BN} {w : World} (hw : StA W st β B w) (h3 : st = true) {k : Nat} {z z' : BN → Array Value} {T : TypeId} (h4 : β k = some (.cells z T)) (off : Nat) (x : Value) (hz : z' B = (z B).setIfInBounds off x) :
    StA W st (β.put k (.cells z' T)) B (w.setCell ⟨(B k).1, off, none⟩ x) := by
  refine ⟨hw.below.setCell (hw.fits k _ h4).1 _, fun k' r hk' => ?_, ?_, ?_, ?_⟩
  · have hb := hw.fits k _ h4
    by_cases e : k' = k
    · subst e
      simp only [Ress.put, if_true, Option.some.injEq] at hk'
      subst hk'
      refine ⟨hb.1, ?_⟩
      have hb2 := hb.2
      rw [hz]
      simp [World.setCell, Array.getElem?_modify, hb2]
    · simp only [Ress.put, if_neg e] at hk'
      obtain ⟨z', T', rfl⟩ := hw.pure h3 k' r hk'
      have h' := hw.fits k' _ hk'
      refine ⟨h'.1, ?_⟩
      have : (B k').1 ≠ (B k).1 := fun e' => e (hw.inj k' k _ _ _ _ hk' h4 e')
      rw [Below.heap_setCell w _ _ _ this]
      exact h'.2
  · intro k1 k2 z1 T1 z2 T2 hk1 hk2 hB
    have some' : ∀ {q zz TT}, (β.put k (.cells z' T)) q = some (.cells zz TT) → ∃ z' T', β q = some (.cells z' T') := fun {q zz TT} hq => by
      by_cases e : q = k
      · exact ⟨_, _, e ▸ h4⟩
      · simp only [Ress.put, if_neg e] at hq; exact ⟨_, _, hq⟩
    obtain ⟨_, _, g1⟩ := some' hk1
    obtain ⟨_, _, g2⟩ := some' hk2
    exact hw.inj k1 k2 _ _ _ _ g1 g2 hB
  · intro e k' r hk'
    by_cases e' : k' = k
    · simp only [Ress.put, if_pos e', Option.some.injEq] at hk'; exact ⟨_, _, hk'.symm⟩
    · simp only [Ress.put, if_neg e'] at hk'; exact hw.pure e k' r hk'
  · intro k' G hk'
    by_cases e' : k' = k
    · simp [Ress.put, if_pos e'] at hk'
    · simp only [Ress.put, if_neg e'] at hk'; exact hw.stab k' G hk'
theorem Ress.put_put (β : Ress) (k : Nat) (r r' : Res) : (β.put k r).put k r' = β.put k r' := by
  funext j
  unfold Ress.put
  by_cases h : j = k <;> simp [h]
theorem StA.setMany {k : Nat} {T : TypeId} {B : BN} (h3 : st = true) : ∀ (l : List (Nat × Value)) {β : Ress} {w : World} {z z' : BN → Array Value}, StA W st β B w → β k = some (.cells z T) → z' B = putMany (z B) l →
    StA W st (β.put k (.cells z' T)) B (Proofs.YtpomdnglknbanaaGreat.setMany w (B k).1 l) := by
  intro l
  induction l with
  | nil =>
    intro β w z z' hw h4 hz
    have hz : z' B = z B := hz
    refine ⟨hw.below, fun k' r hk' => ?_, ?_, ?_, ?_⟩
    · by_cases e : k' = k
      · subst e
        simp only [Ress.put, if_true, Option.some.injEq] at hk'
        subst hk'
        have := hw.fits k' _ h4
        simp only [fitsRes] at this ⊢
        rw [hz]
        exact this
      · simp only [Ress.put, if_neg e] at hk'; exact hw.fits k' r hk'
    · intro k1 k2 z1 T1 z2 T2 hk1 hk2 hB
      have some' : ∀ {q zz TT}, (β.put k (.cells z' T)) q = some (.cells zz TT) → ∃ z' T', β q = some (.cells z' T') := fun {q zz TT} hq => by
        by_cases e : q = k
        · exact ⟨_, _, e ▸ h4⟩
        · simp only [Ress.put, if_neg e] at hq; exact ⟨_, _, hq⟩
      obtain ⟨_, _, g1⟩ := some' hk1
      obtain ⟨_, _, g2⟩ := some' hk2
      exact hw.inj k1 k2 _ _ _ _ g1 g2 hB
    · intro e k' r hk'
      by_cases e' : k' = k
      · simp only [Ress.put, if_pos e', Option.some.injEq] at hk'; exact ⟨_, _, hk'.symm⟩
      · simp only [Ress.put, if_neg e'] at hk'; exact hw.pure e k' r hk'
    · intro k' G hk'
      by_cases e' : k' = k
      · simp [Ress.put, if_pos e'] at hk'
      · simp only [Ress.put, if_neg e'] at hk'; exact hw.stab k' G hk'
  | cons p l ih =>
    intro β w z z' hw h4 hz
    have h1 := hw.setOne h3 h4 p.1 p.2 (z' := fun _ => (z B).setIfInBounds p.1 p.2) rfl
    have h2 := ih h1 (z := fun _ => (z B).setIfInBounds p.1 p.2) (z' := z') (by simp [Ress.put]) hz
    rw [Ress.put_put] at h2
    exact h2

/-- A call that hands back what is its own, and G says what that is. -/
def ownUpon (P : Program) (w : World) (G : Value → World → Prop) : Result Next → Prop
  | .ok (.enter f args) w' => w' = w ∧ Calls P f args w (fun e w'' => ∃ u, e = .returned u ∧ G u w'' ∧ Below w.heap.size w w'')
  | _ => False
def ownAt (P : Program) (o : Oper) (a : Act) (w : World) (G : Value → World → Prop) : Prop := ownUpon P w G ((execOp a.eval o).run P w)

def Valid (P : Program) (ops : Array Oper) (W : World) (st : Bool) (F : List Nat) (o : Oper) (i : Nat) (a : BN → Act) (β : Ress) (v : BN → Value) (u : Option (Nat × Res)) : Prop :=
  ((∀ B, Region.wanted o (yielded ops (a B).tmps) = true) ∧
    ((u = none ∧ (∀ k ∈ F, β k ≠ none) ∧ ∀ B w, StF W F β B w → mildAt P o (a B) w (v B)) ∨
     (∃ (z : Array Value) (T : TypeId) (f : Nat → Value), i ∈ F ∧ β i = none ∧ u = some (i, .cells (fun _ => z) T) ∧ v = (fun B => f (B i).1) ∧ ∀ B w, StF W F β B w → (execOp (a B).eval o).run P w = .ok (.value (f w.heap.size)) (w.alloc (.cells z T))) ∨
     (∃ (k : Nat) (z : BN → Array Value) (T : TypeId) (x : BN → List (Nat × Value)), k ∈ F ∧ (∀ k ∈ F, β k ≠ none) ∧ st = true ∧ β k = some (.cells z T) ∧ Cont F x ∧ u = some (k, .cells (fun B => putMany (z B) (x B)) T) ∧ v = (fun _ => undef) ∧
        ∀ B w, StF W F β B w → (execOp (a B).eval o).run P w = .ok .skip (setMany w (B k).1 (x B))) ∨
     (∃ G, i ∈ F ∧ β i = none ∧ st = false ∧ Stable G ∧ u = some (i, .own G) ∧ v = (fun B => (B i).2) ∧ ∀ B w, StF W F β B w → ownAt P o (a B) w G))) ∨
  ((∀ B, Region.wanted o (yielded ops (a B).tmps) = false) ∧ u = none ∧ v = fun _ => undef)

theorem Valid.congr {F : List Nat} {o : Oper} {i : Nat} {a a' : BN → Act} {β β' : Ress} {v : BN → Value} {u : Option (Nat × Res)}
    (hx : ∀ B, execOp (a' B).eval o = execOp (a B).eval o) (hw : ∀ B, Region.wanted o (yielded ops (a' B).tmps) = Region.wanted o (yielded ops (a B).tmps)) (hβ : ∀ k ∈ F, β' k = β k)
    (h : Valid P ops W st F o i a β v u) : Valid P ops W st F o i a' β' v u := by
  have sf : ∀ B w, StF W F β' B w → StF W F β B w := fun B w hs => hs.of_eq fun k hk => (hβ k hk).symm
  have ne : (∀ k ∈ F, β k ≠ none) → ∀ k ∈ F, β' k ≠ none := fun h k hk => by rw [hβ k hk]; exact h k hk
  rcases h with ⟨h0, h⟩ | ⟨h0, h1, h2⟩
  · refine .inl ⟨fun B => by rw [hw]; exact h0 B, ?_⟩
    rcases h with ⟨h1, h2, h3⟩ | ⟨z, T, f, h1, h2, h3, h4, h5⟩ | ⟨k, z, T, x, h1, h2, h3, h4, h5, h6, h7, h8⟩ | ⟨G, h1, h2, h3, h4, h5, h6, h7⟩
    · exact .inl ⟨h1, ne h2, fun B w hs => by have := h3 B w (sf B w hs); unfold mildAt at *; rw [hx]; exact this⟩
    · exact .inr (.inl ⟨z, T, f, h1, by rw [hβ i h1]; exact h2, h3, h4, fun B w hs => by rw [hx]; exact h5 B w (sf B w hs)⟩)
    · exact .inr (.inr (.inl ⟨k, z, T, x, h1, ne h2, h3, by rw [hβ k h1]; exact h4, h5, h6, h7, fun B w hs => by rw [hx]; exact h8 B w (sf B w hs)⟩))
    · exact .inr (.inr (.inr ⟨G, h1, by rw [hβ i h1]; exact h2, h3, h4, h5, h6, fun B w hs => by have := h7 B w (sf B w hs); unfold ownAt at *; rw [hx]; exact this⟩))
  · exact .inr ⟨fun B => by rw [hw]; exact h0 B, h1, h2⟩

/-- The state hangs on nothing but what was made. -/
structure Reg (a : BN → Act) (β : Ress) : Prop where
  act : ContD β a
  res : ∀ k z T, β k = some (.cells z T) → ContD β z

theorem wpOp_of_valid {F : List Nat} {o : Oper} {i : Nat} {a : BN → Act} {β : Ress} {v : BN → Value} {u : Option (Nat × Res)} {B : BN} {w : World} {K' : Act → World → Prop} {Q' : Exit → Act → World → Prop}
    (ho : ops[i]? = some o) (hw : StA W st β B w) (hr : Reg a β) (hc : Cont F v) (hv : Valid P ops W st F o i a β v u)
    (h : ∀ B' w', StA W st (updo β u) B' w' → Reg (fun B => (a B).put o.dst (v B)) (updo β u) → K' ((a B').put o.dst (v B')) w') : wpOp P ops Q' i K' (a B) w := by
  unfold wpOp
  simp only [ho]
  rcases hv with ⟨h0, hv⟩ | ⟨h0, rfl, rfl⟩
  · rw [if_pos (h0 B)]
    left
    unfold Oper.wp
    rcases hv with ⟨rfl, h2, h3⟩ | ⟨z, T, f, h1, h2, rfl, rfl, h5⟩ | ⟨k, z, T, x, h1, h2, h3, h4, h5, rfl, rfl, h8⟩ | ⟨G, h1, h2, h3, h4, rfl, rfl, h7⟩
    · have hreg : Reg (fun B => (a B).put o.dst (v B)) β := ⟨fun B B' hB => by rw [show a B = a B' from hr.act B B' hB, hc B B' fun k hk => hB k (h2 k hk)], hr.res⟩
      have h3 := h3 B w (hw.toF F)
      unfold mildAt at h3
      generalize (execOp (a B).eval o).run P w = r at *
      cases r with
      | ok nx w' =>
        cases nx <;> simp only [mildUpon] at h3 <;> simp only [Oper.upon]
        case value u => obtain ⟨e1, e2⟩ := h3; rw [e1, e2]; exact h _ _ hw hreg
        case skip => obtain ⟨e1, e2⟩ := h3; rw [e1, ← e2]; exact h _ _ hw hreg
        case enter f args =>
          obtain ⟨e1, hc⟩ := h3
          rw [e1]
          exact hc.mono fun e w'' ⟨he, hb⟩ => by subst he; exact h _ _ (hw.step hb) hreg
      | halt x w' => simp only [mildUpon] at h3
    · rw [h5 B w (hw.toF F)]
      simp only [Oper.upon]
      have agree : ∀ k, β k ≠ none → B k = (fun j => if j = i then (w.heap.size, undef) else B j) k := fun k hk => by
        have : k ≠ i := fun e => hk (e ▸ h2)
        simp [this]
      have hs := hw.step ((Below.refl w.heap.size w).alloc (Nat.le_refl _) (.cells z T))
      have := h (fun j => if j = i then (w.heap.size, undef) else B j) (w.alloc (.cells z T)) ?_ ?_
      · rw [show a B = a _ from hr.act B _ agree]
        simpa using this
      · refine ⟨hs.below, fun k r hk => ?_, ?_, ?_, ?_⟩
        · by_cases hki : k = i
          · subst hki
            simp only [updo, Ress.put, if_true, Option.some.injEq] at hk
            subst hk
            refine ⟨by simp only [if_true]; exact hw.below.size, ?_⟩
            simp only [if_true]
            show (w.heap.push _)[w.heap.size]? = _
            simp
          · simp only [updo, Ress.put, if_neg hki] at hk
            exact (hs.fits k r hk).congr (fun z' T' e => hr.res k z' T' (e ▸ hk) B _ agree) (by simp [hki])
        · intro k k' z' T' z'' T'' hk hk' hB
          have old : ∀ {q : Nat} {zz : BN → Array Value} {TT : TypeId}, q ≠ i → (updo β (some (i, .cells (fun _ => z) T))) q = some (.cells zz TT) → (B q).1 < w.heap.size := fun {q zz TT} hq hs' => by
            simp only [updo, Ress.put, if_neg hq] at hs'
            exact lt_of_some (hw.fits q _ hs').2
          by_cases e1 : k = i
          · by_cases e2 : k' = i
            · rw [e1, e2]
            · have := old e2 hk'
              simp [e1, e2] at hB
              omega
          · by_cases e2 : k' = i
            · have := old e1 hk
              simp [e1, e2] at hB
              omega
            · simp [e1, e2] at hB
              simp only [updo, Ress.put, if_neg e1] at hk
              simp only [updo, Ress.put, if_neg e2] at hk'
              exact hw.inj k k' _ _ _ _ hk hk' hB
        · intro e k r hk
          by_cases hki : k = i
          · simp only [updo, Ress.put, if_pos hki, Option.some.injEq] at hk; exact ⟨_, _, hk.symm⟩
          · simp only [updo, Ress.put, if_neg hki] at hk; exact hw.pure e k r hk
        · intro k G hk
          by_cases hki : k = i
          · simp [updo, Ress.put, if_pos hki] at hk
          · simp only [updo, Ress.put, if_neg hki] at hk; exact hw.stab k G hk
      · have up : ∀ {B1 B2 : BN}, (∀ k, (updo β (some (i, .cells (fun _ => z) T))) k ≠ none → B1 k = B2 k) → (∀ k, β k ≠ none → B1 k = B2 k) ∧ B1 i = B2 i := fun {B1 B2} hB =>
          ⟨fun k hk => hB k (by by_cases e : k = i <;> simp [updo, Ress.put, e, hk]), hB i (by simp [updo, Ress.put])⟩
        refine ⟨fun B1 B2 hB => ?_, fun k z' T' hk => ?_⟩
        · obtain ⟨g1, g2⟩ := up hB
          show (a B1).put _ (f (B1 i).1) = (a B2).put _ (f (B2 i).1)
          rw [show a B1 = a B2 from hr.act B1 B2 g1, g2]
        · by_cases hki : k = i
          · simp only [updo, Ress.put, if_pos hki, Option.some.injEq, Res.cells.injEq] at hk
            rw [← hk.1]
            exact fun _ _ _ => rfl
          · simp only [updo, Ress.put, if_neg hki] at hk
            exact fun B1 B2 hB => hr.res k z' T' hk B1 B2 (up hB).1
    · rw [h8 B w (hw.toF F)]
      simp only [Oper.upon]
      have dom : ∀ k', (updo β (some (k, .cells (fun B => putMany (z B) (x B)) T))) k' ≠ none ↔ β k' ≠ none := fun k' => by
        by_cases e : k' = k
        · subst e; simp [updo, Ress.put, h4]
        · simp [updo, Ress.put, e]
      refine h B _ (hw.setMany h3 (x B) h4 rfl) ?_
      refine ⟨fun B1 B2 hB => ?_, fun k' z' T' hk' B1 B2 hB => ?_⟩
      · show (a B1).put _ _ = (a B2).put _ _
        rw [show a B1 = a B2 from hr.act B1 B2 fun q hq => hB q ((dom q).2 hq)]
      · have hB' : ∀ q, β q ≠ none → B1 q = B2 q := fun q hq => hB q ((dom q).2 hq)
        by_cases e' : k' = k
        · simp only [updo, Ress.put, if_pos e', Option.some.injEq, Res.cells.injEq] at hk'
          rw [← hk'.1]
          show putMany (z B1) _ = putMany (z B2) _
          rw [hr.res k z T h4 B1 B2 hB', h5 B1 B2 fun q hq => hB' q (h2 q hq)]
        · simp only [updo, Ress.put, if_neg e'] at hk'
          exact hr.res k' z' T' hk' B1 B2 hB'
    · have h7 := h7 B w (hw.toF F)
      unfold ownAt at h7
      have agree : ∀ y : Value, ∀ k, β k ≠ none → B k = (fun j => if j = i then (0, y) else B j) k := fun y k hk => by
        have : k ≠ i := fun e => hk (e ▸ h2)
        simp [this]
      have up : ∀ {B1 B2 : BN}, (∀ k, (updo β (some (i, .own G))) k ≠ none → B1 k = B2 k) → (∀ k, β k ≠ none → B1 k = B2 k) ∧ B1 i = B2 i := fun {B1 B2} hB =>
        ⟨fun k hk => hB k (by by_cases e : k = i <;> simp [updo, Ress.put, e, hk]), hB i (by simp [updo, Ress.put])⟩
      have hreg : Reg (fun B => (a B).put o.dst (B i).2) (updo β (some (i, .own G))) := by
        refine ⟨fun B1 B2 hB => ?_, fun k z' T' hk => ?_⟩
        · obtain ⟨g1, g2⟩ := up hB
          show (a B1).put _ (B1 i).2 = (a B2).put _ (B2 i).2
          rw [show a B1 = a B2 from hr.act B1 B2 g1, g2]
        · by_cases hki : k = i
          · simp [updo, Ress.put, if_pos hki] at hk
          · simp only [updo, Ress.put, if_neg hki] at hk
            exact fun B1 B2 hB => hr.res k z' T' hk B1 B2 (up hB).1
      have main : ∀ y w'', G y w'' → Below w.heap.size w w'' → K' ((a B).put o.dst y) w'' := fun y w'' hG hb => by
        have hs := hw.step hb
        have := h (fun j => if j = i then (0, y) else B j) w'' ⟨hs.below, fun k r hk => ?_, ?_, ?_, ?_⟩ hreg
        · rw [show a B = a _ from hr.act B _ (agree y)]
          simpa using this
        · by_cases hki : k = i
          · simp only [updo, Ress.put, if_pos hki, Option.some.injEq] at hk
            subst hk
            simpa [fitsRes, hki] using hG
          · simp only [updo, Ress.put, if_neg hki] at hk
            exact (hs.fits k r hk).congr (fun z' T' e => hr.res k z' T' (e ▸ hk) B _ (agree y)) (by simp [hki])
        · intro k k' z' T' z'' T'' hk hk' hB
          have e1 : k ≠ i := fun e => by simp [updo, Ress.put, if_pos e] at hk
          have e2 : k' ≠ i := fun e => by simp [updo, Ress.put, if_pos e] at hk'
          simp [e1, e2] at hB
          simp only [updo, Ress.put, if_neg e1] at hk
          simp only [updo, Ress.put, if_neg e2] at hk'
          exact hw.inj k k' _ _ _ _ hk hk' hB
        · intro e; rw [h3] at e; cases e
        · intro k G' hk
          by_cases hki : k = i
          · simp only [updo, Ress.put, if_pos hki, Option.some.injEq, Res.own.injEq] at hk
            exact hk ▸ h4
          · simp only [updo, Ress.put, if_neg hki] at hk; exact hw.stab k G' hk
      generalize (execOp (a B).eval o).run P w = r at *
      cases r with
      | ok nx w' =>
        cases nx <;> simp only [ownUpon] at h7 <;> simp only [Oper.upon]
        case enter f args =>
          obtain ⟨e1, hc⟩ := h7
          rw [e1]
          exact hc.mono fun e w'' ⟨y, he, hG, hb⟩ => by subst he; exact main y w'' hG hb
      | halt x w' => simp only [ownUpon] at h7
  · rw [if_neg (by rw [h0 B]; exact Bool.false_ne_true)]
    exact h B w hw ⟨fun B1 B2 hB => by show (a B1).put _ _ = (a B2).put _ _; rw [show a B1 = a B2 from hr.act B1 B2 hB], hr.res⟩

/-- Two operations that touch nothing in common may change places. -/
theorem swap {Fi Fj : List Nat} {oi oj : Oper} {i j : Nat} {a : BN → Act} {β : Ress} {vi vj : BN → Value} {ui uj : Option (Nat × Res)} (hap : oi.apart ops oj = true) (hd : ∀ k ∈ Fi, k ∉ Fj)
    (hsi : ∀ cs b, oi.op ≠ .select cs b) (hsj : ∀ cs b, oj.op ≠ .select cs b) (hui : ∀ k r, ui = some (k, r) → k ∈ Fi) (huj : ∀ k r, uj = some (k, r) → k ∈ Fj)
    (hi : Valid P ops W st Fi oi i a β vi ui) (hj : Valid P ops W st Fj oj j (fun B => (a B).put oi.dst (vi B)) (updo β ui) vj uj) :
    Valid P ops W st Fj oj j a β vj uj ∧ Valid P ops W st Fi oi i (fun B => (a B).put oj.dst (vj B)) (updo β uj) vi ui ∧
    (fun B => ((a B).put oi.dst (vi B)).put oj.dst (vj B)) = (fun B => ((a B).put oj.dst (vj B)).put oi.dst (vi B)) ∧ updo (updo β ui) uj = updo (updo β uj) ui := by
  obtain ⟨h1, h2, h3⟩ := Oper.apart_spec hap
  refine ⟨hj.congr (fun B => (execOp_put oj hsj (a B) oi.dst (vi B) h1).symm) (fun B => (wanted_put oj (a B) oi.dst (vi B) h1).symm) (fun k hk => (updo_out hui (fun h => hd k h hk)).symm),
    hi.congr (fun B => execOp_put oi hsi (a B) oj.dst (vj B) h3) (fun B => wanted_put oi (a B) oj.dst (vj B) h3) (fun k hk => updo_out huj (hd k hk)), ?_, updo_comm hui huj hd⟩
  funext B
  exact Act.put_comm (a B) (vi B) (vj B) h2

/-- What comes behind i, a first and a last. -/
def descB (md : Region.Mode) (ops : Array Oper) (i : Nat) : List Nat :=
  (List.range ops.size).foldl (fun D j => match ops[j]? with
    | some oj => if oj.after.any (fun e => Region.binds md e && (e.on == i || D.contains e.on)) then j :: D else D
    | none => D) []
def DescOK (md : Region.Mode) (ops : Array Oper) (i : Nat) (D : List Nat) : Prop := ∀ x ∈ D, ∃ ox e, ops[x]? = some ox ∧ e ∈ ox.after ∧ Region.binds md e = true ∧ (e.on = i ∨ e.on ∈ D)
theorem descB_ok (i : Nat) : DescOK md ops i (descB md ops i) := by
  unfold descB
  have : ∀ (l : List Nat) (D : List Nat), DescOK md ops i D → DescOK md ops i (l.foldl (fun D j => match ops[j]? with
    | some oj => if oj.after.any (fun e => Region.binds md e && (e.on == i || D.contains e.on)) then j :: D else D
    | none => D) D) := by
    intro l
    induction l with
    | nil => intro D h; exact h
    | cons j l ih =>
      intro D h
      simp only [List.foldl_cons]
      refine ih _ ?_
      cases hj : ops[j]? with
      | none => exact h
      | some oj =>
        simp only
        split
        · rename_i ha
          obtain ⟨e, he, hb⟩ := Array.any_eq_true'.1 ha
          simp only [Bool.and_eq_true, Bool.or_eq_true, beq_iff_eq, List.contains_iff_mem] at hb
          intro x hx
          rcases List.mem_cons.1 hx with rfl | hx
          · exact ⟨oj, e, hj, he, hb.1, hb.2.imp id (List.mem_cons_of_mem _)⟩
          · obtain ⟨ox, e', g1, g2, g3, g4⟩ := h x hx
            exact ⟨ox, e', g1, g2, g3, g4.imp id (List.mem_cons_of_mem _)⟩
        · exact h
  exact this _ [] (fun x hx => by cases hx)
theorem ready_not_desc {i j : Nat} {listed : Array Bool} {D : List Nat} (hD : DescOK md ops i D) (hi : listed.getD i true = false) (hun : ∀ x ∈ D, listed.getD x true = false) (hj : j ∈ Region.ready md ops listed) : j ∉ D := by
  intro hx
  obtain ⟨ox, e, h1, h2, h3, h4⟩ := hD j hx
  obtain ⟨_, oj, hoj, hall⟩ := mem_ready.1 hj
  obtain rfl : ox = oj := Option.some.inj (h1.symm.trans hoj)
  have h5 := hall e h2 h3
  rcases h4 with h4 | h4
  · rw [h4, getD_both hi] at h5; cases h5
  · rw [getD_both (hun _ h4)] at h5; cases h5

/-- The head in whatever order. -/
def anyG (P : Program) (md : Region.Mode) (ops : Array Oper) (W : World) (st : Bool) (foot : Nat → List Nat) (n : Nat) (L : Array Bool → (BN → Act) → Ress → Prop) : Nat → Array Bool → (BN → Act) → Ress → Prop
  | 0, listed, a, β => L listed a β
  | f + 1, listed, a, β =>
    Region.ready md ops listed ≠ [] ∧ ∀ i ∈ Region.ready md ops listed, i < n ∧ ∀ o, ops[i]? = some o → ∃ v u, Cont (foot i) v ∧ (∀ k r, u = some (k, r) → k ∈ foot i) ∧ Valid P ops W st (foot i) o i a β v u ∧
      anyG P md ops W st foot n L f (listed.setIfInBounds i true) (fun B => (a B).put o.dst (v B)) (updo β u)

theorem wpAny_of_anyG {foot : Nat → List Nat} {n g : Nat} {L : Array Bool → (BN → Act) → Ress → Prop} {Q' : Exit → Act → World → Prop} (hL : ∀ listed a β B w, StA W st β B w → L listed a β → wpAny P md ops Q' g listed (a B) w) :
    ∀ (f : Nat) (listed : Array Bool) (a : BN → Act) (β : Ress) (B : BN) (w : World), StA W st β B w → Reg a β → anyG P md ops W st foot n L f listed a β → wpAny P md ops Q' (f + g) listed (a B) w := by
  intro f
  induction f with
  | zero => intro listed a β B w hw _ h; rw [Nat.zero_add]; exact hL _ _ _ _ _ hw h
  | succ f ih =>
    intro listed a β B w hw hr h
    have e : f + 1 + g = (f + g) + 1 := by omega
    rw [e]
    refine ⟨fun h0 => absurd h0 h.1, fun i hi => ?_⟩
    obtain ⟨_, o, ho, _⟩ := mem_ready.1 hi
    obtain ⟨v, u, hc, hu, hv, hn⟩ := (h.2 i hi).2 o ho
    exact wpOp_of_valid ho hw hr hc hv fun B' w' hw' hr' => ih _ _ _ B' w' hw' hr' hn

theorem anyG_first {foot : Nat → List Nat} {n i : Nat} {oi : Oper} {L : Array Bool → (BN → Act) → Ress → Prop} {Inv : Array Bool → Prop} (hi : ops[i]? = some oi) (hsel : ∀ (j : Nat) (o : Oper) cs b, ops[j]? = some o → o.op ≠ .select cs b)
    (hin : i < n) (hset : ∀ listed j, Inv listed → j ∈ Region.ready md ops listed → j < n → Inv (listed.setIfInBounds j true)) (hheads : ∀ listed, Inv listed → listed.getD i true = false → ∀ j ∈ Region.ready md ops listed, j < n)
    (hdone : ∀ listed a β, L listed a β → ∀ j ∈ Region.ready md ops listed, n ≤ j) {D : List Nat} (hD : DescOK md ops i D) {v : BN → Value} {u : Option (Nat × Res)} (hcv : Cont (foot i) v) (hu : ∀ k r, u = some (k, r) → k ∈ foot i) :
    ∀ (f : Nat) (listed : Array Bool) (a : BN → Act) (β : Ress), Inv listed → (∀ x ∈ D, listed.getD x true = false) →
      (∀ j oj, ops[j]? = some oj → j < n → j ≠ i → listed.getD j true = false → j ∉ D → oi.apart ops oj = true ∧ ∀ k ∈ foot i, k ∉ foot j) →
      i ∈ Region.ready md ops listed → Valid P ops W st (foot i) oi i a β v u →
      anyG P md ops W st foot n L f (listed.setIfInBounds i true) (fun B => (a B).put oi.dst (v B)) (updo β u) → anyG P md ops W st foot n L (f + 1) listed a β := by
  intro f
  induction f with
  | zero =>
    intro listed a β inv hDu _ hr hv H
    refine ⟨fun h => (by rw [h] at hr; cases hr), fun j hj => ⟨hheads _ inv (mem_ready.1 hr).1 j hj, fun o ho => ?_⟩⟩
    by_cases hji : j = i
    · subst hji
      obtain rfl : oi = o := Option.some.inj (hi.symm.trans ho)
      exact ⟨v, u, hcv, hu, hv, H⟩
    · have h1 := hdone _ _ _ H j (ready_mono hj hji)
      have h2 := hheads _ inv (mem_ready.1 hr).1 j hj
      omega
  | succ f ih =>
    intro listed a β inv hDu hfree hr hv H
    have hun := (mem_ready.1 hr).1
    refine ⟨fun h => (by rw [h] at hr; cases hr), fun j hj => ⟨hheads _ inv hun j hj, fun o ho => ?_⟩⟩
    have hjn := hheads _ inv hun j hj
    by_cases hji : j = i
    · subst hji
      obtain rfl : oi = o := Option.some.inj (hi.symm.trans ho)
      exact ⟨v, u, hcv, hu, hv, H⟩
    · obtain ⟨hjun, _⟩ := mem_ready.1 hj
      have hjD := ready_not_desc hD hun hDu hj
      obtain ⟨hap, hdis⟩ := hfree j o ho hjn hji hjun hjD
      obtain ⟨v', u', hc', hu', hv', hn'⟩ := (H.2 j (ready_mono hj hji)).2 o ho
      obtain ⟨g1, g2, g3, g4⟩ := swap hap hdis (fun cs b => hsel i oi cs b hi) (fun cs b => hsel j o cs b ho) hu hu' hv hv'
      refine ⟨v', u', hc', hu', g1, ?_⟩
      refine ih (listed.setIfInBounds j true) _ _ (hset _ _ inv hj hjn) (fun x hx => ?_) (fun k ok hk hkn hki hkun hkD => hfree k ok hk hkn hki ?_ hkD) (ready_mono hr (Ne.symm hji)) g2 ?_
      · have : j ≠ x := fun e => hjD (e ▸ hx)
        rw [getD_set_ne true this]; exact hDu x hx
      · by_cases hjk : j = k
        · subst hjk; exact hjun
        · rwa [getD_set_ne true hjk] at hkun
      · rw [Array.setIfInBounds_comm _ _ hji, ← g3, ← g4]
        exact hn'

/-- The walk in the order of the text. -/
def wpFlow (P : Program) (ops : Array Oper) (W : World) (st : Bool) (foot : Nat → List Nat) (Q : (BN → Act) → Ress → Prop) : Nat → List Oper → (BN → Act) → Ress → Prop
  | _, [], a, β => Q a β
  | k, o :: rest, a, β => ∃ v u, Cont (foot k) v ∧ (∀ j r, u = some (j, r) → j ∈ foot k) ∧ Valid P ops W st (foot k) o k a β v u ∧ wpFlow P ops W st foot Q (k + 1) rest (fun B => (a B).put o.dst (v B)) (updo β u)

/-- The check. -/
def freeFlow (md : Region.Mode) (ops : Array Oper) (foot : Nat → List Nat) (n : Nat) (listed : Array Bool) (i : Nat) : Bool :=
  match ops[i]? with
  | none => false
  | some oi => (descB md ops i).all (fun x => !listed.getD x true) && (List.range n).all fun j => j == i || listed.getD j true || (descB md ops i).contains j || match ops[j]? with
      | some oj => oi.apart ops oj && (foot i).all (fun k => !(foot j).contains k)
      | none => true
def flowHead (md : Region.Mode) (ops : Array Oper) (foot : Nat → List Nat) (n : Nat) (tail : Array Bool → Bool) : Nat → Nat → Array Bool → Bool
  | 0, _, listed => tail listed
  | f + 1, k, listed => (Region.ready md ops listed).contains k && freeFlow md ops foot n listed k && flowHead md ops foot n tail f (k + 1) (listed.setIfInBounds k true)

theorem anyG_lex {foot : Nat → List Nat} {n : Nat} {tail : Array Bool → Bool} {Q : (BN → Act) → Ress → Prop} {Inv : Array Bool → Prop} (hsel : Region.noSelect ops = true)
    (hset : ∀ listed j, Inv listed → j ∈ Region.ready md ops listed → j < n → Inv (listed.setIfInBounds j true)) (hheads : ∀ i, i < n → ∀ listed, Inv listed → listed.getD i true = false → ∀ j ∈ Region.ready md ops listed, j < n)
    (htail : ∀ listed, tail listed = true → ∀ j ∈ Region.ready md ops listed, n ≤ j) :
    ∀ (l : List Oper) (k : Nat) (listed : Array Bool) (a : BN → Act) (β : Ress), (∀ j, j < l.length → l[j]? = ops[k + j]?) → k + l.length = n → Inv listed →
    flowHead md ops foot n tail l.length k listed = true → wpFlow P ops W st foot Q k l a β →
    anyG P md ops W st foot n (fun listed' a' β' => tail listed' = true ∧ Q a' β') l.length listed a β := by
  intro l
  induction l with
  | nil => intro k listed a β _ _ _ hB h; exact ⟨hB, h⟩
  | cons o l ih =>
    intro k listed a β hl hk inv hB h
    have h0 : ops[k]? = some o := by simpa using (hl 0 (by simp)).symm
    have hkn : k < n := by simp only [List.length_cons] at hk; omega
    simp only [List.length_cons, flowHead, Bool.and_eq_true] at hB
    have hr : k ∈ Region.ready md ops listed := by simpa using hB.1.1
    obtain ⟨v, u, hc, hu, hv, hn⟩ := h
    have hf := hB.1.2
    simp only [freeFlow, h0, Bool.and_eq_true, List.all_eq_true, List.mem_range, Bool.not_eq_true'] at hf
    refine anyG_first h0 (Region.noSelect_spec hsel) hkn hset (hheads k hkn) (fun listed' a' β' hL => htail _ hL.1) (descB_ok k) hc hu l.length listed a β inv hf.1 (fun j oj hj hjn hji hjun hjD => ?_) hr hv ?_
    · have := hf.2 j hjn
      simp only [hj, Bool.or_eq_true, beq_iff_eq, hji, hjun, List.contains_iff_mem, hjD, false_or, Bool.false_eq_true, Bool.and_eq_true, List.all_eq_true, Bool.not_eq_true'] at this
      refine ⟨this.1, fun k' hk' hm => ?_⟩
      have := this.2 k' hk'
      rw [List.contains_iff_mem.2 hm] at this
      cases this
    · refine ih (k + 1) _ _ _ (fun j hj => ?_) (by simp only [List.length_cons] at hk; omega) (hset _ _ inv hr hkn) hB.2 hn
      have := hl (j + 1) (by simp; omega)
      simpa [Nat.add_assoc, Nat.add_comm 1 j] using this

theorem StA.start (W : World) : StA W st (fun _ => none) (fun _ => (0, undef)) W := ⟨Below.refl _ _, (fun _ _ h => by cases h), (fun _ _ _ _ _ _ h => by cases h), (fun _ _ _ h => by cases h), (fun _ _ h => by cases h)⟩
theorem Reg.start (a : Act) : Reg (fun _ => a) (fun _ => none) := ⟨(fun _ _ _ => rfl), (fun _ _ _ h => by cases h)⟩

def flowB (ops : Array Oper) (foot : Nat → List Nat) : Bool := Region.noSelect ops && flowHead .any ops foot ops.size (fun listed => (Region.ready .any ops listed).isEmpty) ops.size 0 (Array.replicate ops.size false)
/-- **THE LAW**: the whole region. -/
theorem wp_region_flow {id : Nat} {Q : Exit → Act → World → Prop} {a : Act} {w : World} {l : List Oper} (st : Bool) (foot : Nat → List Nat) (hm : P.follows .mixedOrders = true) (hB : flowB l.toArray foot = true)
    (h : wpFlow P l.toArray w.drew st foot (fun a' β => ∀ B w', StA w.drew st β B w' → Q .normal (a' B) w') 0 l (fun _ => a) (fun _ => none)) : (Code.region id l.toArray true).wp P Q a w := by
  simp only [flowB, Bool.and_eq_true] at hB
  refine wp_region_any hm ?_
  have ez : l.toArray.size = l.length := by simp
  have H := anyG_lex (md := .any) (W := w.drew) (n := l.toArray.size) (tail := fun listed => (Region.ready .any l.toArray listed).isEmpty) (Inv := fun _ => True) hB.1 (fun _ _ _ _ _ => trivial) (fun i _ listed _ _ j hj => by
      obtain ⟨_, o, ho, _⟩ := mem_ready.1 hj
      exact (Array.getElem?_eq_some_iff.1 ho).1) (fun listed hL j hj => by rw [List.isEmpty_iff.1 hL] at hj; cases hj) l 0 (Array.replicate l.toArray.size false) (fun _ => a) (fun _ => none)
    (fun j hj => by simp) (by simp) trivial (by rw [← ez]; exact hB.2) h
  have st0 := StA.start (st := st) w.drew
  have fin := wpAny_of_anyG (Q' := Q) (g := 0) (fun listed a' β B w' hw' hL => ⟨List.isEmpty_iff.1 hL.1, hL.2 B w' hw'⟩) _ _ _ _ _ _ st0 (Reg.start a) H
  simpa using fin

def flowTailB (ops : Array Oper) (foot : Nat → List Nat) (n : Nat) : Bool :=
  Region.noSelect ops && decide (n < ops.size) && Region.sinkB .any ops n && Region.chainB .any ops n && flowHead .any ops foot n (fun listed => Region.seqB .any ops (ops.size - n) n listed) n 0 (Array.replicate ops.size false)
/-- **THE LAW**: n operations in whatever order, then the rest in the order of the text. -/
theorem wp_region_flow_tail {id : Nat} {Q : Exit → Act → World → Prop} {a : Act} {w : World} {l : List Oper} (n : Nat) (st : Bool) (foot : Nat → List Nat) (hm : P.follows .mixedOrders = true) (hB : flowTailB l.toArray foot n = true)
    (h : wpFlow P l.toArray w.drew st foot (fun a' β => ∀ B w', StA w.drew st β B w' → wpList P l.toArray Q (l.drop n) (a' B) w') 0 (l.take n) (fun _ => a) (fun _ => none)) : (Code.region id l.toArray true).wp P Q a w := by
  simp only [flowTailB, Bool.and_eq_true, decide_eq_true_eq] at hB
  obtain ⟨⟨⟨⟨hsel, hn⟩, hs⟩, hc⟩, hlex⟩ := hB
  have hn' : n < l.length := by simpa using hn
  have htl : (l.take n).length = n := by simp; omega
  have hdl : (l.drop n).length = l.toArray.size - n := by simp
  have inv0 : HeadInv .any l.toArray n (Array.replicate l.toArray.size false) :=
    ⟨by simp, fun j oj _ hl => (by rw [getD_replicate_false] at hl; cases hl), fun t _ ht => getD_in (by simpa using ht) (getD_replicate_false _ _)⟩
  refine wp_region_any hm ?_
  have H := anyG_lex (md := .any) (W := w.drew) (n := n) (Inv := HeadInv .any l.toArray n) hsel (fun _ _ inv hj hjn => inv.set hj hjn) (fun i hin listed inv hun j hj => by
      rcases Nat.lt_or_ge j n with h | h
      · exact h
      · exact absurd hj (tail_waits hs hc hn inv _ i rfl hin hun j h)) (fun listed hL => seqB_ready hL) (l.take n) 0 (Array.replicate l.toArray.size false) (fun _ => a) (fun _ => none)
    (fun j hj => by
      have hj' : j < n := by rw [htl] at hj; exact hj
      simp [hj']) (by simpa using htl) inv0 (by rw [htl]; exact hlex) h
  have st0 := StA.start (st := st) w.drew
  have fin := wpAny_of_anyG (Q' := Q) (g := l.toArray.size - n) (fun listed a' β B w' hw' hL => by
    have := wpAny_of_seq (md := .any) (Q' := Q) (l.drop n) n listed (a' B) w' (fun j => by simp [List.getElem?_drop]) (by rw [hdl]; exact hL.1) (hL.2 B w' hw')
    rwa [hdl] at this) _ _ _ _ _ _ st0 (Reg.start a) H
  rwa [htl, show n + (l.toArray.size - n) = l.toArray.size by omega] at fin

/-! Step by step. -/
variable {foot : Nat → List Nat} {Q : (BN → Act) → Ress → Prop} {k : Nat} {o : Oper} {rest : List Oper} {a : BN → Act} {β : Ress}
theorem flow_nil (h : Q a β) : wpFlow P ops W st foot Q k [] a β := h
theorem flow_skip (hw : ∀ B, Region.wanted o (yielded ops (a B).tmps) = false) (h : wpFlow P ops W st foot Q (k + 1) rest (fun B => (a B).put o.dst undef) β) : wpFlow P ops W st foot Q k (o :: rest) a β :=
  ⟨fun _ => undef, none, fun _ _ _ => rfl, (fun _ _ h => by cases h), .inr ⟨hw, rfl, rfl⟩, h⟩
/-- What hands back a value, whatever was made. -/
theorem flow_mild (hw : ∀ B, Region.wanted o (yielded ops (a B).tmps) = true)
    (h : ∀ K : (BN → Act) → Prop, (∀ a, wpFlow P ops W st foot Q (k + 1) rest a β → K a) → ∃ v : BN → Value, (∀ B w, StF W (foot k) β B w → mildAt P o (a B) w (v B)) ∧ Cont (foot k) v ∧ (∀ k' ∈ foot k, β k' ≠ none) ∧ K (fun B => (a B).put o.dst (v B))) : wpFlow P ops W st foot Q k (o :: rest) a β := by
  obtain ⟨v, h1, h2, h3, h4⟩ := h _ (fun _ h => h)
  exact ⟨v, none, h2, (fun _ _ h => by cases h), .inl ⟨hw, .inl ⟨rfl, h3, h1⟩⟩, h4⟩
/-- What makes a block. -/
theorem flow_make (hw : ∀ B, Region.wanted o (yielded ops (a B).tmps) = true)
    (h : ∀ K : (BN → Act) → Ress → Prop, (∀ a β', wpFlow P ops W st foot Q (k + 1) rest a β' → K a β') → ∃ (z : Array Value) (T : TypeId) (f : Nat → Value), (∀ B w, StF W (foot k) β B w → (execOp (a B).eval o).run P w = .ok (.value (f w.heap.size)) (w.alloc (.cells z T))) ∧ k ∈ foot k ∧ β k = none ∧
      K (fun B => (a B).put o.dst (f (B k).1)) (β.put k (.cells (fun _ => z) T))) : wpFlow P ops W st foot Q k (o :: rest) a β := by
  obtain ⟨z, T, f, h1, h2, h3, h4⟩ := h _ (fun _ _ h => h)
  exact ⟨fun B => f (B k).1, some (k, .cells (fun _ => z) T), (fun B B' hB => by show f (B k).1 = f (B' k).1; rw [hB k h2]), (fun j r hj => by simp only [Option.some.injEq, Prod.mk.injEq] at hj; exact hj.1 ▸ h2), .inl ⟨hw, .inr (.inl ⟨z, T, f, h2, h3, rfl, rfl, h1⟩)⟩, h4⟩
theorem flow_slice (hw : ∀ B, Region.wanted o (yielded ops (a B).tmps) = true)
    (h : ∀ K : (BN → Act) → Ress → Prop, (∀ a β', wpFlow P ops W st foot Q (k + 1) rest a β' → K a β') → ∃ (z : Array Value) (T : TypeId) (n : Nat), (∀ B w, StF W (foot k) β B w → (execOp (a B).eval o).run P w = .ok (.value (.slice (some ⟨w.heap.size, 0, none⟩) n n)) (w.alloc (.cells z T))) ∧ k ∈ foot k ∧ β k = none ∧
      K (fun B => (a B).put o.dst (.slice (some ⟨(B k).1, 0, none⟩) n n)) (β.put k (.cells (fun _ => z) T))) : wpFlow P ops W st foot Q k (o :: rest) a β := by
  refine flow_make hw (fun K hK => ?_)
  obtain ⟨z, T, n, h1, h2, h3, h4⟩ := h K hK
  exact ⟨z, T, slcOf n, h1, h2, h3, h4⟩
theorem flow_ptr (hw : ∀ B, Region.wanted o (yielded ops (a B).tmps) = true)
    (h : ∀ K : (BN → Act) → Ress → Prop, (∀ a β', wpFlow P ops W st foot Q (k + 1) rest a β' → K a β') → ∃ (z : Array Value) (T : TypeId), (∀ B w, StF W (foot k) β B w → (execOp (a B).eval o).run P w = .ok (.value (.pointer (some ⟨w.heap.size, 0, none⟩))) (w.alloc (.cells z T))) ∧ k ∈ foot k ∧ β k = none ∧
      K (fun B => (a B).put o.dst (.pointer (some ⟨(B k).1, 0, none⟩))) (β.put k (.cells (fun _ => z) T))) : wpFlow P ops W st foot Q k (o :: rest) a β := by
  refine flow_make hw (fun K hK => ?_)
  obtain ⟨z, T, h1, h2, h3, h4⟩ := h K hK
  exact ⟨z, T, ptrOf, h1, h2, h3, h4⟩
/-- What stores into a block that was made here. -/
theorem flow_store (j : Nat) (hw : ∀ B, Region.wanted o (yielded ops (a B).tmps) = true) (hst : st = true) (hj : j ∈ foot k) (hF : ∀ k' ∈ foot k, β k' ≠ none)
    (h : ∀ K : (BN → Act) → Ress → Prop, (∀ a β', wpFlow P ops W st foot Q (k + 1) rest a β' → K a β') → ∃ (z : BN → Array Value) (T : TypeId) (x : BN → List (Nat × Value)), β j = some (.cells z T) ∧
      (∀ B w, StF W (foot k) β B w → (execOp (a B).eval o).run P w = .ok .skip (setMany w (B j).1 (x B))) ∧ Cont (foot k) x ∧
      K (fun B => (a B).put o.dst undef) (β.put j (.cells (fun B => putMany (z B) (x B)) T))) : wpFlow P ops W st foot Q k (o :: rest) a β := by
  obtain ⟨z, T, x, h1, h2, h3, h4⟩ := h _ (fun _ _ h => h)
  exact ⟨fun _ => undef, some (j, .cells (fun B => putMany (z B) (x B)) T), (fun _ _ _ => rfl), (fun i r hi => by simp only [Option.some.injEq, Prod.mk.injEq] at hi; exact hi.1 ▸ hj), .inl ⟨hw, .inr (.inr (.inl ⟨j, z, T, x, hj, hF, hst, h1, h3, rfl, rfl, h2⟩))⟩, h4⟩
theorem flow_store1 (j off : Nat) (hw : ∀ B, Region.wanted o (yielded ops (a B).tmps) = true) (hst : st = true) (hj : j ∈ foot k) (hF : ∀ k' ∈ foot k, β k' ≠ none)
    (h : ∀ K : (BN → Act) → Ress → Prop, (∀ a β', wpFlow P ops W st foot Q (k + 1) rest a β' → K a β') → ∃ (z : BN → Array Value) (T : TypeId) (x : BN → Value), β j = some (.cells z T) ∧
      (∀ B w, StF W (foot k) β B w → (execOp (a B).eval o).run P w = .ok .skip (w.setCell ⟨(B j).1, off, none⟩ (x B))) ∧ Cont (foot k) x ∧
      K (fun B => (a B).put o.dst undef) (β.put j (.cells (fun B => (z B).setIfInBounds off (x B)) T))) : wpFlow P ops W st foot Q k (o :: rest) a β := by
  refine flow_store j hw hst hj hF fun K hK => ?_
  obtain ⟨z, T, x, h1, h2, h3, h4⟩ := h K hK
  exact ⟨z, T, fun B => [(off, x B)], h1, h2, (fun B B' hB => by show [(off, x B)] = [(off, x B')]; rw [h3 B B' hB]), h4⟩
theorem flow_store3 (j off : Nat) (hw : ∀ B, Region.wanted o (yielded ops (a B).tmps) = true) (hst : st = true) (hj : j ∈ foot k) (hF : ∀ k' ∈ foot k, β k' ≠ none)
    (h : ∀ K : (BN → Act) → Ress → Prop, (∀ a β', wpFlow P ops W st foot Q (k + 1) rest a β' → K a β') → ∃ (z : BN → Array Value) (T : TypeId) (x0 x1 x2 : BN → Value), β j = some (.cells z T) ∧
      (∀ B w, StF W (foot k) β B w → (execOp (a B).eval o).run P w = .ok .skip (((w.setCell ⟨(B j).1, off, none⟩ (x0 B)).setCell ⟨(B j).1, off + 1, none⟩ (x1 B)).setCell ⟨(B j).1, off + 2, none⟩ (x2 B))) ∧
      Cont (foot k) x0 ∧ Cont (foot k) x1 ∧ Cont (foot k) x2 ∧
      K (fun B => (a B).put o.dst undef) (β.put j (.cells (fun B => (((z B).setIfInBounds off (x0 B)).setIfInBounds (off + 1) (x1 B)).setIfInBounds (off + 2) (x2 B)) T))) : wpFlow P ops W st foot Q k (o :: rest) a β := by
  refine flow_store j hw hst hj hF fun K hK => ?_
  obtain ⟨z, T, x0, x1, x2, h1, h2, h3, h4, h5, h6⟩ := h K hK
  exact ⟨z, T, fun B => [(off, x0 B), (off + 1, x1 B), (off + 2, x2 B)], h1, h2, (fun B B' hB => by show [(off, x0 B), (off + 1, x1 B), (off + 2, x2 B)] = [(off, x0 B'), (off + 1, x1 B'), (off + 2, x2 B')]; rw [h3 B B' hB, h4 B B' hB, h5 B B' hB]), h6⟩
theorem flow_store2 (j off : Nat) (hw : ∀ B, Region.wanted o (yielded ops (a B).tmps) = true) (hst : st = true) (hj : j ∈ foot k) (hF : ∀ k' ∈ foot k, β k' ≠ none)
    (h : ∀ K : (BN → Act) → Ress → Prop, (∀ a β', wpFlow P ops W st foot Q (k + 1) rest a β' → K a β') → ∃ (z : BN → Array Value) (T : TypeId) (x0 x1 : BN → Value), β j = some (.cells z T) ∧
      (∀ B w, StF W (foot k) β B w → (execOp (a B).eval o).run P w = .ok .skip ((w.setCell ⟨(B j).1, off, none⟩ (x0 B)).setCell ⟨(B j).1, off + 1, none⟩ (x1 B))) ∧
      Cont (foot k) x0 ∧ Cont (foot k) x1 ∧
      K (fun B => (a B).put o.dst undef) (β.put j (.cells (fun B => ((z B).setIfInBounds off (x0 B)).setIfInBounds (off + 1) (x1 B)) T))) : wpFlow P ops W st foot Q k (o :: rest) a β := by
  refine flow_store j hw hst hj hF fun K hK => ?_
  obtain ⟨z, T, x0, x1, h1, h2, h3, h4, h6⟩ := h K hK
  exact ⟨z, T, fun B => [(off, x0 B), (off + 1, x1 B)], h1, h2, (fun B B' hB => by show [(off, x0 B), (off + 1, x1 B)] = [(off, x0 B'), (off + 1, x1 B')]; rw [h3 B B' hB, h4 B B' hB]), h6⟩
/-- What calls, and is handed what is its own. -/
theorem flow_own (G : Value → World → Prop) (hw : ∀ B, Region.wanted o (yielded ops (a B).tmps) = true) (hst : st = false) (hk : k ∈ foot k) (hb : β k = none) (hG : Stable G)
    (h : ∀ B w, StF W (foot k) β B w → ownAt P o (a B) w G)
    (hn : ∀ K : (BN → Act) → Ress → Prop, (∀ a β', wpFlow P ops W st foot Q (k + 1) rest a β' → K a β') → K (fun B => (a B).put o.dst (B k).2) (β.put k (.own G))) : wpFlow P ops W st foot Q k (o :: rest) a β :=
  ⟨fun B => (B k).2, some (k, .own G), (fun B B' hB => by show (B k).2 = (B' k).2; rw [hB k hk]), (fun j r hj => by simp only [Option.some.injEq, Prod.mk.injEq] at hj; exact hj.1 ▸ hk), .inl ⟨hw, .inr (.inr (.inr ⟨G, hk, hb, hst, hG, rfl, rfl, h⟩))⟩, hn _ (fun _ _ h => h)⟩
theorem StF.cells {F : List Nat} {B : BN} {w : World} (h : StF W F β B w) (j : Nat) {z : BN → Array Value} {T : TypeId} (hj : j ∈ F) (hb : β j = some (.cells z T)) :
    (∀ o, w.cell? ⟨(B j).1, o, none⟩ = (z B)[o]?) ∧ (∀ o, w.frozen? ⟨(B j).1, o, none⟩ = false) := block_cells (h.fits j _ hj hb).2
theorem StF.cellsB {F : List Nat} {B : BN} {w : World} (h : StF W F β B w) (j : Nat) {z : BN → Array Value} {T : TypeId} (hj : F.contains j = true) (hb : β j = some (.cells z T)) :
    W.heap.size ≤ (B j).1 ∧ (∀ o, w.cell? ⟨(B j).1, o, none⟩ = (z B)[o]?) ∧ (∀ o, w.frozen? ⟨(B j).1, o, none⟩ = false) ∧ (∀ o, hcell w (B j).1 o = (z B)[o]?) ∧ (∀ o, hfroz w (B j).1 o = false) :=
  ⟨(h.fits j _ (List.contains_iff_mem.1 hj) hb).1, (h.cells j (List.contains_iff_mem.1 hj) hb).1, (h.cells j (List.contains_iff_mem.1 hj) hb).2, (h.cells j (List.contains_iff_mem.1 hj) hb).1, (h.cells j (List.contains_iff_mem.1 hj) hb).2⟩
theorem StF.ownedB {F : List Nat} {B : BN} {w : World} (h : StF W F β B w) (j : Nat) {G : Value → World → Prop} (hj : F.contains j = true) (hb : β j = some (.own G)) : G (B j).2 w := h.fits j _ (List.contains_iff_mem.1 hj) hb
theorem StA.cells {B : BN} {w : World} (h : StA W st β B w) (j : Nat) {z : BN → Array Value} {T : TypeId} (hb : β j = some (.cells z T)) :
    W.heap.size ≤ (B j).1 ∧ (B j).1 < w.heap.size ∧ (∀ o, w.cell? ⟨(B j).1, o, none⟩ = (z B)[o]?) ∧ (∀ o, w.frozen? ⟨(B j).1, o, none⟩ = false) :=
  ⟨(h.fits j _ hb).1, lt_of_some (h.fits j _ hb).2, block_cells (h.fits j _ hb).2⟩
theorem StA.owned {B : BN} {w : World} (h : StA W st β B w) (j : Nat) {G : Value → World → Prop} (hb : β j = some (.own G)) : G (B j).2 w := h.fits j _ hb
theorem StF.owned {F : List Nat} {B : BN} {w : World} (h : StF W F β B w) (j : Nat) {G : Value → World → Prop} (hj : j ∈ F) (hb : β j = some (.own G)) : G (B j).2 w := h.fits j _ hj hb
end
end Go.Proofs.YtpomdnglknbanaaGreat
