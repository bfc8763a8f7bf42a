/-
  A region that draws its order: n operations that read, or call what only makes memory; then operations that make a variable, store into it, hand values on. One walk in the order of the text serves every order: the new variable's block is whichever it is.
-/
import Derived.Test.YtpomdnglknbanaaGreatQT
set_option linter.unusedSimpArgs false
set_option linter.unusedVariables false
namespace Go.Proofs.YtpomdnglknbanaaGreat
open Go Go.RowKit

section
variable {P : Program} {ops : Array Oper} {md : Region.Mode} {W : World}

/-- In world w the operation yields v, in that very world; or it calls what hands back v and leaves all that was there. -/
def mildUpon (P : Program) (w : World) (v : Value) : Result Next → Prop
  | .ok (.value u) w' => w' = w ∧ u = v
  | .ok .skip w' => w' = w ∧ v = undef
  | .ok (.enter f args) w' => w' = w ∧ Calls P f args w (fun e w'' => e = .returned v ∧ Below w.heap.size w w'')
  | _ => False
def mildAt (P : Program) (o : Oper) (a : Act) (w : World) (v : Value) : Prop := mildUpon P w v ((execOp a.eval o).run P w)

/-- The operation makes a variable: a new block of the cells z, of type T. -/
def Makes (P : Program) (o : Oper) (z : Array Value) (T : TypeId) : Prop :=
  o.guard = none ∧ ∀ (ev : Operand → Value) (w : World), (execOp ev o).run P w = .ok (.value (.pointer (some ⟨w.heap.size, 0, none⟩))) (w.alloc (.cells z T))

/-- Which operation made which block. -/
abbrev Blocks := Nat → Option (Nat × Array Value × TypeId)
def Blocks.fresh (β : Blocks) (b : Nat) : Prop := ∀ k x, β k = some (b, x) → False
def Blocks.put (β : Blocks) (i b : Nat) (z : Array Value) (T : TypeId) : Blocks := fun k => if k = i then some (b, z, T) else β k
def Blocks.bounded (β : Blocks) : Prop := ∃ N, ∀ k b x, β k = some (b, x) → b < N
theorem Blocks.put_bounded {β : Blocks} (h : β.bounded) (i b : Nat) (z : Array Value) (T : TypeId) : (β.put i b z T).bounded := by
  obtain ⟨N, hN⟩ := h
  refine ⟨N + b + 1, fun k c x hk => ?_⟩
  unfold Blocks.put at hk
  split at hk
  · simp only [Option.some.injEq, Prod.mk.injEq] at hk; omega
  · have := hN k c x hk; omega
theorem Blocks.some_fresh {β : Blocks} (h : β.bounded) : ∃ b, β.fresh b := by
  obtain ⟨N, hN⟩ := h
  exact ⟨N, fun k x hk => by have := hN k N x hk; omega⟩
theorem Blocks.put_comm (β : Blocks) {i j b c : Nat} (h : i ≠ j) (z z' : Array Value) (T T' : TypeId) : (β.put i b z T).put j c z' T' = (β.put j c z' T').put i b z T := by
  funext k
  unfold Blocks.put
  by_cases h1 : k = j
  · subst h1; simp [Ne.symm h]
  · simp [h1]
theorem Blocks.fresh_put {β : Blocks} {i b c : Nat} {z : Array Value} {T : TypeId} (h : (β.put i b z T).fresh c) (hi : ∀ x, β i = some x → False) : β.fresh c ∧ c ≠ b := by
  refine ⟨fun k x hk => ?_, fun e => h i (z, T) (by simp [Blocks.put, e])⟩
  by_cases hki : k = i
  · subst hki; exact hi _ hk
  · exact h k x (by simp [Blocks.put, hki, hk])
theorem Blocks.put_fresh {β : Blocks} {i b c : Nat} {z : Array Value} {T : TypeId} (h : β.fresh c) (hc : c ≠ b) : (β.put i b z T).fresh c := by
  intro k x hk
  unfold Blocks.put at hk
  split at hk
  · simp only [Option.some.injEq, Prod.mk.injEq] at hk; exact hc hk.1.symm
  · exact h k x hk

/-- The worlds in between. -/
structure St (W : World) (β : Blocks) (w : World) : Prop where
  below : Below W.heap.size W w
  block : ∀ k b z T, β k = some (b, z, T) → W.heap.size ≤ b ∧ w.heap[b]? = some (.cells z T)
theorem St.lt {β : Blocks} {w : World} (h : St W β w) {k b : Nat} {z : Array Value} {T : TypeId} (hk : β k = some (b, z, T)) : b < w.heap.size := by
  have := (h.block k b z T hk).2
  rcases Nat.lt_or_ge b w.heap.size with h | h
  · exact h
  · simp [Array.getElem?_eq_none h] at this
theorem St.step {β : Blocks} {w w' : World} (h : St W β w) (hb : Below w.heap.size w w') : St W β w' :=
  ⟨h.below.trans (hb.mono h.below.size), fun k b z T hk => ⟨(h.block k b z T hk).1, by rw [hb.block b (h.lt hk)]; exact (h.block k b z T hk).2⟩⟩
theorem St.make {β : Blocks} {w : World} (h : St W β w) (i : Nat) (z : Array Value) (T : TypeId) : St W (β.put i w.heap.size z T) (w.alloc (.cells z T)) := by
  have hs := h.step ((Below.refl w.heap.size w).alloc (Nat.le_refl _) (.cells z T))
  refine ⟨hs.below, fun k b z' T' hk => ?_⟩
  unfold Blocks.put at hk
  split at hk
  · simp only [Option.some.injEq, Prod.mk.injEq] at hk
    obtain ⟨rfl, rfl, rfl⟩ := hk
    refine ⟨h.below.size, ?_⟩
    show (w.heap.push _)[w.heap.size]? = _
    simp
  · exact hs.block k b z' T' hk

theorem St.set {β : Blocks} {w : World} (h : St W β w) {k b : Nat} {z : Array Value} {T : TypeId} (hk : β k = some (b, z, T)) (hone : ∀ k' z' T', β k' = some (b, z', T') → k' = k) (o : Nat) (v : Value) :
    St W (β.put k b (z.setIfInBounds o v) T) (w.setCell ⟨b, o, none⟩ v) := by
  have hb := h.block k b z T hk
  refine ⟨h.below.setCell hb.1 v, fun k' b' z' T' hk' => ?_⟩
  unfold Blocks.put at hk'
  split at hk'
  · simp only [Option.some.injEq, Prod.mk.injEq] at hk'
    obtain ⟨rfl, rfl, rfl⟩ := hk'
    refine ⟨hb.1, ?_⟩
    simp [World.setCell, Array.getElem?_modify, hb.2]
  · rename_i hne
    have h' := h.block k' b' z' T' hk'
    refine ⟨h'.1, ?_⟩
    have : b' ≠ b := fun e => hne (hone k' z' T' (e ▸ hk'))
    rw [Below.heap_setCell w _ _ _ this]
    exact h'.2

/-- A step of whatever kind, from every world in between to one in between. -/
def tailUpon (P : Program) (W : World) (β : Blocks) (w : World) (v : Value) : Result Next → Prop
  | .ok (.value u) w' => u = v ∧ St W β w'
  | .ok .skip w' => v = undef ∧ St W β w'
  | _ => False
def tailAt (P : Program) (W : World) (o : Oper) (a : Act) (β : Blocks) (w : World) (v : Value) : Prop := tailUpon P W β w v ((execOp a.eval o).run P w)

/-- The operation o, number i, comes up and is wanted. -/
def kindOp (P : Program) (W : World) (o : Oper) (i : Nat) (K : Act → Blocks → Prop) (a : Act) (β : Blocks) : Prop :=
  (∃ v, (∀ w, Below W.heap.size W w → mildAt P o a w v) ∧ K (a.put o.dst v) β) ∨
  (∃ z T, Makes P o z T ∧ ∀ b, β.fresh b → K (a.put o.dst (.pointer (some ⟨b, 0, none⟩))) (β.put i b z T)) ∨
  (∃ v β', (∀ w, St W β w → tailAt P W o a β' w v) ∧ K (a.put o.dst v) β')
def eOp (P : Program) (ops : Array Oper) (W : World) (i : Nat) (K : Act → Blocks → Prop) (a : Act) (β : Blocks) : Prop :=
  match ops[i]? with
  | none => K a β
  | some o => if Region.wanted o (yielded ops a.tmps) then kindOp P W o i K a β else K (a.put o.dst undef) β

theorem kindOp_mono {o : Oper} {i : Nat} {a : Act} {β : Blocks} {K K' : Act → Blocks → Prop} (h : ∀ a β, K a β → K' a β) (hh : kindOp P W o i K a β) : kindOp P W o i K' a β := by
  rcases hh with ⟨v, h1, h2⟩ | ⟨z, T, h1, h2⟩ | ⟨v, β', h1, h2⟩
  · exact .inl ⟨v, h1, h _ _ h2⟩
  · exact .inr (.inl ⟨z, T, h1, fun b hb => h _ _ (h2 b hb)⟩)
  · exact .inr (.inr ⟨v, β', h1, h _ _ h2⟩)
theorem eOp_mono {i : Nat} {a : Act} {β : Blocks} {K K' : Act → Blocks → Prop} (h : ∀ a β, K a β → K' a β) (hh : eOp P ops W i K a β) : eOp P ops W i K' a β := by
  unfold eOp at *
  cases hi : ops[i]? with
  | none => simp only [hi] at hh; exact h _ _ hh
  | some o =>
    simp only [hi] at hh ⊢
    by_cases hw : Region.wanted o (yielded ops a.tmps) = true
    · simp only [hw, if_true] at hh ⊢; exact kindOp_mono h hh
    · simp only [hw, Bool.false_eq_true, if_false] at hh ⊢; exact h _ _ hh

theorem wpOp_of_eOp {i : Nat} {a : Act} {β : Blocks} {K : Act → Blocks → Prop} {K' : Act → World → Prop} {Q' : Exit → Act → World → Prop} {w : World} (hw : St W β w) (h : ∀ a β w', St W β w' → K a β → K' a w')
    (hh : eOp P ops W i K a β) : wpOp P ops Q' i K' a w := by
  unfold eOp at hh
  unfold wpOp
  cases hi : ops[i]? with
  | none => simp only [hi] at hh ⊢; exact h _ _ _ hw hh
  | some o =>
    simp only [hi] at hh ⊢
    by_cases hwn : Region.wanted o (yielded ops a.tmps) = true
    · simp only [hwn, if_true] at hh ⊢
      left
      unfold Oper.wp
      rcases hh with ⟨v, h1, h2⟩ | ⟨z, T, ⟨hg, hm⟩, h2⟩ | ⟨v, β', h1, h2⟩
      · have h3 := h1 w hw.below
        unfold mildAt at h3
        generalize (execOp a.eval o).run P w = r at *
        cases r with
        | ok nx w' =>
          cases nx <;> simp only [mildUpon] at h3 <;> simp only [Oper.upon]
          case value u => obtain ⟨e1, e2⟩ := h3; rw [e1, e2]; exact h _ _ _ hw h2
          case skip => obtain ⟨e1, e2⟩ := h3; rw [e1, ← e2]; exact h _ _ _ hw h2
          case enter f args =>
            obtain ⟨e1, hc⟩ := h3
            rw [e1]
            exact hc.mono fun e w'' ⟨he, hb⟩ => by subst he; exact h _ _ _ (hw.step hb) h2
        | halt x w' => simp only [mildUpon] at h3
      · rw [hm a.eval w]
        simp only [Oper.upon]
        exact h _ _ _ (hw.make i z T) (h2 w.heap.size fun k x hk => by have := hw.lt (z := x.1) (T := x.2) hk; omega)
      · have h3 := h1 w hw
        unfold tailAt at h3
        generalize (execOp a.eval o).run P w = r at *
        cases r with
        | ok nx w' =>
          cases nx <;> simp only [tailUpon] at h3 <;> simp only [Oper.upon]
          case value u => obtain ⟨e1, e2⟩ := h3; rw [e1]; exact h _ _ _ e2 h2
          case skip => obtain ⟨e1, e2⟩ := h3; rw [← e1]; exact h _ _ _ e2 h2
        | halt x w' => simp only [tailUpon] at h3
    · simp only [hwn, Bool.false_eq_true, if_false] at hh ⊢
      exact h _ _ _ hw hh

/-- Whatever order is picked from here on. -/
def anyE (P : Program) (md : Region.Mode) (ops : Array Oper) (W : World) (L : Act → Blocks → Prop) : Nat → Array Bool → Act → Blocks → Prop
  | 0, listed, a, β => Region.ready md ops listed = [] ∧ L a β
  | f + 1, listed, a, β => (Region.ready md ops listed = [] → L a β) ∧ ∀ i ∈ Region.ready md ops listed, eOp P ops W i (anyE P md ops W L f (listed.setIfInBounds i true)) a β

theorem wpAny_of_anyE {L : Act → Blocks → Prop} {Q' : Exit → Act → World → Prop} (hL : ∀ a β w, St W β w → L a β → Q' .normal a w) :
    ∀ (f : Nat) (listed : Array Bool) (a : Act) (β : Blocks) (w : World), St W β w → anyE P md ops W L f listed a β → wpAny P md ops Q' f listed a w := by
  intro f
  induction f with
  | zero => intro listed a β w hw h; exact ⟨h.1, hL _ _ _ hw h.2⟩
  | succ f ih =>
    intro listed a β w hw h
    exact ⟨fun h0 => hL _ _ _ hw (h.1 h0), fun i hi => wpOp_of_eOp hw (fun a' β' w' hw' h' => ih _ a' β' w' hw' h') (h.2 i hi)⟩

/-- In state a, in every world, operation o leaves v. -/
def MildIn (P : Program) (ops : Array Oper) (W : World) (o : Oper) (v : Value) (a : Act) : Prop :=
  (Region.wanted o (yielded ops a.tmps) = true ∧ ∀ w, Below W.heap.size W w → mildAt P o a w v) ∨ (Region.wanted o (yielded ops a.tmps) = false ∧ v = undef)
theorem MildIn.of_same {o : Oper} {v : Value} {a a' : Act} (hy : MildIn P ops W o v a) (he : execOp a'.eval o = execOp a.eval o)
    (hw : Region.wanted o (yielded ops a'.tmps) = Region.wanted o (yielded ops a.tmps)) : MildIn P ops W o v a' := by
  unfold MildIn mildAt at *
  rw [he, hw]
  exact hy
theorem MildIn.eOp {i : Nat} {o : Oper} {v : Value} {a : Act} {β : Blocks} (hi : ops[i]? = some o) (hy : MildIn P ops W o v a) {K : Act → Blocks → Prop} (h : K (a.put o.dst v) β) : eOp P ops W i K a β := by
  unfold Proofs.YtpomdnglknbanaaGreat.eOp
  simp only [hi]
  rcases hy with ⟨hw, hv⟩ | ⟨hw, rfl⟩
  · simp only [hw, if_true]; exact .inl ⟨v, hv, h⟩
  · simp only [hw, Bool.false_eq_true, if_false]; exact h

/-- What comes up beside a mild operation that it is apart from. -/
theorem eOp_put {j : Nat} {oi oj : Oper} {v : Value} (hj : ops[j]? = some oj) (hap : oi.apart ops oj = true) (hsi : ∀ cs b, oi.op ≠ .select cs b) (hsj : ∀ cs b, oj.op ≠ .select cs b)
    {K : Act → Blocks → Prop} {a : Act} {β : Blocks} (hy : MildIn P ops W oi v a) (h : eOp P ops W j K (a.put oi.dst v) β) :
    eOp P ops W j (fun a' β' => MildIn P ops W oi v a' ∧ K (a'.put oi.dst v) β') a β := by
  obtain ⟨h1, h2, h3⟩ := Oper.apart_spec hap
  have keep : ∀ u, MildIn P ops W oi v (a.put oj.dst u) := fun u => hy.of_same (execOp_put oi hsi a oj.dst u h3) (wanted_put oi a oj.dst u h3)
  have ex : execOp (a.put oi.dst v).eval oj = execOp a.eval oj := execOp_put oj hsj a oi.dst v h1
  have co : ∀ u, (a.put oi.dst v).put oj.dst u = (a.put oj.dst u).put oi.dst v := fun u => Act.put_comm a v u h2
  unfold eOp at *
  simp only [hj] at *
  rw [wanted_put oj a oi.dst v h1] at h
  by_cases hw : Region.wanted oj (yielded ops a.tmps) = true
  · simp only [hw, if_true] at *
    rcases h with ⟨u, hu, hn⟩ | ⟨z, T, hm, hn⟩ | ⟨u, β', hu, hn⟩
    · exact .inl ⟨u, fun w hw' => by have := hu w hw'; unfold mildAt at *; rwa [ex] at this, keep u, by rw [← co]; exact hn⟩
    · exact .inr (.inl ⟨z, T, hm, fun b hb => ⟨keep _, by rw [← co]; exact hn b hb⟩⟩)
    · exact .inr (.inr ⟨u, β', fun w hw' => by have := hu w hw'; unfold tailAt at *; rwa [ex] at this, keep u, by rw [← co]; exact hn⟩)
  · simp only [hw, Bool.false_eq_true, if_false] at *
    exact ⟨keep _, by rw [← co]; exact h⟩

theorem anyE_first {i : Nat} {oi : Oper} {v : Value} {L : Act → Blocks → Prop} (hi : ops[i]? = some oi) (hsel : ∀ (j : Nat) (o : Oper) cs b, ops[j]? = some o → o.op ≠ .select cs b) :
    ∀ (f : Nat) (listed : Array Bool) (a : Act) (β : Blocks),
      (∀ j oj, ops[j]? = some oj → j ≠ i → listed.getD j true = false → (∀ e ∈ oj.after, Region.binds md e = true → e.on ≠ i) → oi.apart ops oj = true) →
      i ∈ Region.ready md ops listed → MildIn P ops W oi v a →
      anyE P md ops W L f (listed.setIfInBounds i true) (a.put oi.dst v) β → anyE P md ops W L (f + 1) listed a β := by
  intro f
  induction f with
  | zero =>
    intro listed a β _ hr hy H
    refine ⟨fun h => (by rw [h] at hr; cases hr), fun j hj => ?_⟩
    by_cases hji : j = i
    · subst hji; exact hy.eOp hi H
    · have := ready_mono hj hji
      rw [H.1] at this
      cases this
  | succ f ih =>
    intro listed a β hfree hr hy H
    refine ⟨fun h => (by rw [h] at hr; cases hr), fun j hj => ?_⟩
    by_cases hji : j = i
    · subst hji; exact hy.eOp hi H
    · obtain ⟨hjun, oj, hoj, hall⟩ := mem_ready.1 hj
      have step := eOp_put hoj (hfree j oj hoj hji hjun (unlisted_not_bound hr hall)) (fun cs b => hsel i oi cs b hi) (fun cs b => hsel j oj cs b hoj) hy (H.2 j (ready_mono hj hji))
      refine eOp_mono (fun a' β' h3 => ih (listed.setIfInBounds j true) a' β' ?_ (ready_mono hr (Ne.symm hji)) h3.1 ?_) step
      · intro k ok hk hki hun hno
        refine hfree k ok hk hki ?_ hno
        by_cases hjk : j = k
        · subst hjk; exact hjun
        · rwa [getD_set_ne true hjk] at hun
      · rw [Array.setIfInBounds_comm _ _ hji]
        exact h3.2

/-- The walk of the first operations, in the order of the text. -/
def wpMild (P : Program) (ops : Array Oper) (W : World) (Q : Act → Prop) : List Oper → Act → Prop
  | [], a => Q a
  | o :: rest, a => if Region.wanted o (yielded ops a.tmps) then ∃ v, (∀ w, Below W.heap.size W w → mildAt P o a w v) ∧ wpMild P ops W Q rest (a.put o.dst v) else wpMild P ops W Q rest (a.put o.dst undef)
/-- .. and of the rest, which has but one order. -/
def wpRest (P : Program) (ops : Array Oper) (W : World) (Q : Act → Blocks → Prop) : Nat → List Oper → Act → Blocks → Prop
  | _, [], a, β => Q a β
  | k, o :: rest, a, β => if Region.wanted o (yielded ops a.tmps) then kindOp P W o k (wpRest P ops W Q (k + 1) rest) a β else wpRest P ops W Q (k + 1) rest (a.put o.dst undef) β

theorem wpMild_nil {Q : Act → Prop} {a : Act} (h : Q a) : wpMild P ops W Q [] a := h
theorem wpMild_step {Q : Act → Prop} {a : Act} {o : Oper} {rest : List Oper} (hw : Region.wanted o (yielded ops a.tmps) = true)
    (h : ∀ K : Act → Prop, (∀ a, wpMild P ops W Q rest a → K a) → ∃ v, (∀ w, Below W.heap.size W w → mildAt P o a w v) ∧ K (a.put o.dst v)) : wpMild P ops W Q (o :: rest) a := by
  unfold wpMild; rw [if_pos hw]; exact h _ fun _ h => h
theorem wpMild_skip {Q : Act → Prop} {a : Act} {o : Oper} {rest : List Oper} (hw : Region.wanted o (yielded ops a.tmps) = false) (h : wpMild P ops W Q rest (a.put o.dst undef)) : wpMild P ops W Q (o :: rest) a := by
  unfold wpMild; rw [if_neg (by rw [hw]; exact Bool.false_ne_true)]; exact h

theorem anyE_rest {Q : Act → Blocks → Prop} : ∀ (l : List Oper) (k : Nat) (listed : Array Bool) (a : Act) (β : Blocks), (∀ j, l[j]? = ops[k + j]?) →
    Region.seqB md ops l.length k listed = true → wpRest P ops W Q k l a β → anyE P md ops W Q l.length listed a β := by
  intro l
  induction l with
  | nil => intro k listed a β _ hB h; exact ⟨by simpa [Region.seqB] using hB, h⟩
  | cons o l ih =>
    intro k listed a β hl hB h
    have h0 : ops[k]? = some o := by simpa using (hl 0).symm
    simp only [List.length_cons, Region.seqB, Bool.and_eq_true, decide_eq_true_eq] at hB
    refine ⟨fun h1 => (by rw [hB.1] at h1; cases h1), fun i hi => ?_⟩
    rw [hB.1] at hi
    obtain rfl : i = k := by simpa using hi
    have hk : eOp P ops W i (wpRest P ops W Q (i + 1) l) a β := by unfold eOp; simp only [h0]; exact h
    exact eOp_mono (fun a' β' h' => ih (i + 1) _ a' β' (fun j => by have := hl (j + 1); simpa [Nat.add_assoc, Nat.add_comm 1 j] using this) hB.2 h') hk

theorem anyE_lex {n g : Nat} {Q : Act → Blocks → Prop} (hsel : Region.noSelect ops = true) (lr : List Oper) (hlr : lr.length = g) (hro : ∀ j, lr[j]? = ops[n + j]?) :
    ∀ (l : List Oper) (k : Nat) (listed : Array Bool) (a : Act) (β : Blocks), (∀ j, j < l.length → l[j]? = ops[k + j]?) → k + l.length = n →
    Region.lexHead md ops g l.length k listed = true → wpMild P ops W (fun a' => wpRest P ops W Q n lr a' β) l a →
    anyE P md ops W Q (l.length + g) listed a β := by
  intro l
  induction l with
  | nil =>
    intro k listed a β _ hk hB h
    obtain rfl : k = n := by simpa using hk
    simp only [List.length_nil, Nat.zero_add]
    rw [← hlr]
    exact anyE_rest lr k listed a β hro (by rw [hlr]; simpa [Region.lexHead] using hB) h
  | cons o l ih =>
    intro k listed a β hl hk hB h
    have h0 : ops[k]? = some o := by simpa using (hl 0 (by simp)).symm
    simp only [List.length_cons, Region.lexHead, Bool.and_eq_true] at hB
    have hr : k ∈ Region.ready md ops listed := by simpa using hB.1.1
    have hy : ∃ v, MildIn P ops W o v a ∧ wpMild P ops W (fun a' => wpRest P ops W Q n lr a' β) l (a.put o.dst v) := by
      unfold wpMild at h
      by_cases hw : Region.wanted o (yielded ops a.tmps) = true
      · rw [if_pos hw] at h
        obtain ⟨v, h1, h2⟩ := h
        exact ⟨v, .inl ⟨hw, h1⟩, h2⟩
      · rw [if_neg hw] at h
        exact ⟨undef, .inr ⟨by simpa using hw, rfl⟩, h⟩
    obtain ⟨v, hy, hK⟩ := hy
    have el : (o :: l).length + g = (l.length + g) + 1 := by simp only [List.length_cons]; omega
    rw [el]
    refine anyE_first h0 (Region.noSelect_spec hsel) _ listed a β (Region.free_spec h0 hB.1.2) hr hy ?_
    refine ih (k + 1) _ _ _ (fun j hj => ?_) (by simp only [List.length_cons] at hk; omega) hB.2 hK
    have := hl (j + 1) (by simp; omega)
    simpa [Nat.add_assoc, Nat.add_comm 1 j] using this

/-- The check: the first n in the order of the text, each free; the rest has one order. -/
def lexRestB (md : Region.Mode) (ops : Array Oper) (n : Nat) : Bool := Region.noSelect ops && decide (n ≤ ops.size) && Region.lexHead md ops (ops.size - n) n 0 (Array.replicate ops.size false)

/-- **THE LAW.** n mild operations, then the rest. -/
theorem wp_region_rest {id : Nat} {Q : Exit → Act → World → Prop} {a : Act} {w : World} {l : List Oper} (n : Nat) (hm : P.follows .mixedOrders = true) (hB : lexRestB .any l.toArray n = true)
    (h : wpMild P l.toArray w.drew (fun a' => wpRest P l.toArray w.drew (fun a'' β => ∀ w', St w.drew β w' → Q .normal a'' w') n (l.drop n) a' (fun _ => none)) (l.take n) a) : (Code.region id l.toArray true).wp P Q a w := by
  simp only [lexRestB, Bool.and_eq_true, decide_eq_true_eq] at hB
  obtain ⟨⟨hsel, hn⟩, hlex⟩ := hB
  have hn' : n ≤ l.length := by simpa using hn
  have htl : (l.take n).length = n := by simp; omega
  have H := anyE_lex (md := .any) (W := w.drew) (n := n) (g := l.toArray.size - n) hsel (l.drop n) (by simp) (fun j => by simp [List.getElem?_drop]) (l.take n) 0 (Array.replicate l.toArray.size false) a (fun _ => none)
    (fun j hj => by have hj' : j < n := by rw [htl] at hj; exact hj
                    simp [hj']) (by simpa using htl) (by rw [htl]; exact hlex) h
  refine wp_region_any hm ?_
  have st0 : St w.drew (fun _ => none) { w with drawn := w.drawn + 1 } := ⟨Below.refl _ _, fun _ _ _ _ hk => by cases hk⟩
  have fin := wpAny_of_anyE (Q' := Q) (fun a' β w' hw' hL => hL w' hw') _ _ _ _ _ st0 H
  rwa [htl, show n + (l.toArray.size - n) = l.toArray.size by simp; omega] at fin

theorem Below.undrew {w w' : World} (h : Below w.drew.heap.size w.drew w') : Below w.heap.size w w' := ⟨h.os, h.tape, h.output, h.size, h.block⟩

/-! The rest, step by step. -/
theorem rest_make {Q : Act → Blocks → Prop} {k : Nat} {o : Oper} {rest : List Oper} {a : Act} {β : Blocks} (z : Array Value) (T : TypeId) (hw : Region.wanted o (yielded ops a.tmps) = true) (hm : Makes P o z T)
    (h : ∀ b, β.fresh b → wpRest P ops W Q (k + 1) rest (a.put o.dst (.pointer (some ⟨b, 0, none⟩))) (β.put k b z T)) : wpRest P ops W Q k (o :: rest) a β := by
  unfold wpRest; rw [if_pos hw]; exact .inr (.inl ⟨z, T, hm, h⟩)
theorem rest_mild {Q : Act → Blocks → Prop} {k : Nat} {o : Oper} {rest : List Oper} {a : Act} {β : Blocks} (hw : Region.wanted o (yielded ops a.tmps) = true)
    (h : ∀ K : Act → Prop, (∀ a, wpRest P ops W Q (k + 1) rest a β → K a) → ∃ v, (∀ w, Below W.heap.size W w → mildAt P o a w v) ∧ K (a.put o.dst v)) : wpRest P ops W Q k (o :: rest) a β := by
  unfold wpRest; rw [if_pos hw]; exact .inl (h (fun a' => wpRest P ops W Q (k + 1) rest a' β) fun _ h => h)
theorem rest_tail {Q : Act → Blocks → Prop} {k : Nat} {o : Oper} {rest : List Oper} {a : Act} {β : Blocks} (β' : Blocks) (hw : Region.wanted o (yielded ops a.tmps) = true) (hd : o.dst = none)
    (h : ∀ w, St W β w → tailAt P W o a β' w undef) (hn : wpRest P ops W Q (k + 1) rest a β') : wpRest P ops W Q k (o :: rest) a β := by
  unfold wpRest; rw [if_pos hw]
  refine .inr (.inr ⟨undef, β', h, ?_⟩)
  have : a.put o.dst undef = a := by rw [hd]; rfl
  rw [this]; exact hn
theorem rest_nil {Q : Act → Blocks → Prop} {k : Nat} {a : Act} {β : Blocks} (h : Q a β) : wpRest P ops W Q k [] a β := h

/-- One variable, made at k, in block b, that holds z. -/
def oneBlock (k b : Nat) (z : Array Value) (T : TypeId) : Blocks := fun i => if i = k then some (b, z, T) else none
theorem oneBlock_of (k b : Nat) (z : Array Value) (T : TypeId) : Blocks.put (fun _ => none) k b z T = oneBlock k b z T := rfl
theorem St.one {k b : Nat} {z : Array Value} {T : TypeId} {w : World} (h : St W (oneBlock k b z T) w) : W.heap.size ≤ b ∧ w.heap[b]? = some (.cells z T) := h.block k b z T (by simp [oneBlock])
theorem St.one_lt {k b : Nat} {z : Array Value} {T : TypeId} {w : World} (h : St W (oneBlock k b z T) w) : b < w.heap.size := h.lt (k := k) (z := z) (T := T) (by simp [oneBlock])
theorem St.one_set {k b : Nat} {z : Array Value} {T : TypeId} {w : World} (h : St W (oneBlock k b z T) w) (o : Nat) (v : Value) : St W (oneBlock k b (z.setIfInBounds o v) T) (w.setCell ⟨b, o, none⟩ v) := by
  have := h.set (k := k) (b := b) (z := z) (T := T) (by simp [oneBlock]) (fun k' z' T' hk => by unfold oneBlock at hk; split at hk <;> simp_all) o v
  have e : (oneBlock k b z T).put k b (z.setIfInBounds o v) T = oneBlock k b (z.setIfInBounds o v) T := by
    funext i; unfold Blocks.put oneBlock; split <;> simp_all
  rwa [e] at this

/-- A block's cells. -/
theorem block_cells {w : World} {b : Nat} {z : Array Value} {T : TypeId} (h : w.heap[b]? = some (.cells z T)) : (∀ o, w.cell? ⟨b, o, none⟩ = z[o]?) ∧ (∀ o, w.frozen? ⟨b, o, none⟩ = false) :=
  ⟨fun o => by simp [World.cell?, h], fun o => by simp [World.frozen?, h]⟩

end
end Go.Proofs.YtpomdnglknbanaaGreat
