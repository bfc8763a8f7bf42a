/-
  Peers that came in, with the reach of their lists.
-/
import Derived.Test.YtpomdnglknbanaaMp
import Derived.Test.YtpomdnglknbanaaRr
import Derived.Lib.SmallJoins
import Derived.Deep.Slices
import Derived.SizedLaws
import Derived.OpenShut
set_option linter.unusedSimpArgs false
set_option linter.unusedVariables false
namespace Go.Proofs.Ytpomdnglknbanaa
open Go Go.RowKit Go.Deep Go.ChangeShapes Go.WideShapes Go.ChangeAt Go.Joins

section
variable {H : Type} {enc : TypeId × Value → H} {w : World} {base : Nat} {held : Bool}
set_option maxRecDepth 100000 in
theorem trod_peerz {fuel : Nat} {cs : List Value} {x : DataW H × List MemPlace} (h : DataW.trod enc Try.prog w base (fun _ => true) held fuel 56 cs = some x) :
    ∃ (p : Peer) (B : Option Addr) (c : Nat), cs = [.string p.id, .int .i64 p.inc, .int .i64 p.seq, .int .i64 p.drops, .int .i64 p.cap, .slice B p.vals.length c, .int .i64 p.last] ∧ InRow w B p.vals.length c p.vals ∧ p.id.size ≤ 9223372036854775807 ∧ ∀ R, (∀ m ∈ x.1.weights Try.prog 56, m ≤ R) → p.vals.length * 8 ≤ R := by
  obtain ⟨y0, y1, y2, y3, n, hX, hl, h0, h1, h2, h3⟩ := trod_struct4 Try.underlying56 h
  have hc : Try.prog.cellsOf 56 = 7 := by kernel_rfl
  have hs : Try.prog.cellsOf 9 = 1 := by kernel_rfl
  have hi : Try.prog.cellsOf 3 = 1 := by kernel_rfl
  have hg : Try.prog.cellsOf 54 = 3 := by kernel_rfl
  have hw : Try.prog.cellsOf 33 = 2 := by kernel_rfl
  have hv : Try.prog.cellsOf 22 = 1 := by kernel_rfl
  rw [hc] at hl
  match cs, hl with
  | [v0, v1, v2, v3, v4, v5, v6], _ =>
    simp only [hs, hg, hw, hi, List.drop_zero, List.take_succ_cons, List.take_zero, List.drop_succ_cons] at h0 h1 h2 h3
    obtain ⟨s, e0, _, hsz⟩ := DataW.trod_string Try.underlying9 h0
    obtain ⟨g0, g1, g2, n1, _, _, j0, j1, j2⟩ := trod_struct3 Try.underlying54 h1
    simp only [hi, List.drop_zero, List.take_succ_cons, List.take_zero, List.drop_succ_cons] at j0 j1 j2
    obtain ⟨a, ea, _, _⟩ := DataW.trod_int Try.underlying3 j0
    obtain ⟨b, eb, _, _⟩ := DataW.trod_int Try.underlying3 j1
    obtain ⟨d, ed, _, _⟩ := DataW.trod_int Try.underlying3 j2
    obtain ⟨q0, q1, n2, hX2, _, r0, r1⟩ := trod_struct2 Try.underlying33 h2
    simp only [hi, hv, List.drop_zero, List.take_succ_cons, List.take_zero, List.drop_succ_cons] at r0 r1
    obtain ⟨z, ez, _, _⟩ := DataW.trod_int Try.underlying3 r0
    obtain ⟨l, el, _, _⟩ := DataW.trod_int Try.underlying3 h3
    simp only [List.cons.injEq, and_true] at e0 ea eb ed ez el
    subst e0 ea eb ed ez el
    rcases open_ints Try.underlying22 Try.underlying3 (by kernel_rfl) r1 with ⟨hcs, _⟩ | ⟨a', len, cap, zs, hcs, _, hle, hm, hz, hX3, hcell, hwz⟩
    · simp only [List.cons.injEq, and_true] at hcs
      subst hcs
      exact ⟨⟨s, a, b, d, z, [], l⟩, none, 0, rfl, inRow_of (zs := []) (.inl ⟨rfl, rfl, rfl, rfl⟩), hsz, fun R _ => Nat.zero_le _⟩
    · simp only [List.cons.injEq, and_true] at hcs
      subst hcs
      have hin := inRow_of (w := w) (zs := zs) (.inr ⟨a', rfl, hle, hm, by simpa using hz, hcell⟩)
      have hln : (zs.take len).length = len := hin.1.1
      refine ⟨⟨s, a, b, d, z, zs.take len, l⟩, some a', cap, ?_, ?_, hsz, fun R hR => ?_⟩
      · simp only [hln]
      · simp only [hln]; exact hin
      · have e1 := congrArg Prod.fst hX
        have e2 := congrArg Prod.fst hX2
        have e3 := congrArg Prod.fst hX3
        dsimp only at e1 e2 e3
        rw [e1] at hR
        have hb8 : Try.prog.bytesOf 3 = 8 := by kernel_rfl
        refine Nat.le_trans ?_ (hR (((lits .i64 (zs.take len) : List (DataW H)).length + (lits .i64 (zs.drop len) : List (DataW H)).length) * 8) ?_)
        · simp only [lits, List.length_map, hln]
          omega
        · rw [e2, e3]
          simp [DataW.weights, DataW.weightsEach, Try.underlying56, Try.underlying33, Try.underlying22, hb8]
theorem weights_all {P : Program} {e : TypeId} {m : Nat} {d : DataW H} : ∀ {l : List (DataW H)}, d ∈ l → m ∈ d.weights P e → m ∈ DataW.weightsAll P e l
  | x :: r, h, hm => by
    simp only [DataW.weightsAll, List.mem_append]
    rcases List.mem_cons.1 h with rfl | h
    · exact Or.inl hm
    · exact Or.inr (weights_all h hm)
theorem peers_inz {v : Value} {d : DataW H} {p : List MemPlace} (hv : ∃ A n c, v = .slice A n c) (h : DataW.Trod enc Try.prog w base (fun _ => true) held 47 v d p) (hR : ∀ m ∈ d.weights Try.prog 47, m ≤ 140737488351232) :
    ∃ (A : Option Addr) (n c : Nat) (L : List Peer), v = .slice A n c ∧ PRow w A n L (fun _ => True) ∧ n ≤ 9223372036854775807 ∧ (∀ k, k < n → (L.getD k default).id.size ≤ 9223372036854775807) ∧ (A = none → n = 0 ∧ c = 0) ∧ n * 80 ≤ 140737488351232 ∧ ∀ k, k < n → (L.getD k default).vals.length * 8 ≤ 140737488351232 := by
  obtain ⟨A, n, c, rfl⟩ := hv
  obtain ⟨fuel, hf⟩ := h
  rcases open_slice (show Try.prog.underlying 47 = some (.slice 56) by kernel_rfl) hf with ⟨hcs, _⟩ | ⟨a, len, cap, m, k, D, Pl, hcs, _, hl, hm, hmm, hX, hx⟩
  · simp [Value.cells] at hcs
    obtain ⟨rfl, rfl, rfl⟩ := hcs
    exact ⟨none, 0, 0, [], rfl, PRow.nil _ _ _, by omega, fun k hk => absurd hk (by omega), fun _ => ⟨rfl, rfl⟩, by omega, fun k hk => absurd hk (by omega)⟩
  · simp [Value.cells] at hcs
    obtain ⟨rfl, rfl, rfl⟩ := hcs
    simp only [if_true] at hmm
    subst hmm
    have e1 := congrArg Prod.fst hX
    dsimp only at e1
    subst e1
    have hb80 : Try.prog.bytesOf 56 = 80 := by kernel_rfl
    have hw : ∀ i, i < n → ∀ m ∈ (D i).weights Try.prog 56, m ≤ 140737488351232 := fun i hi m hm => hR m (by
      simp only [DataW.weights, Try.underlying47, List.mem_cons, List.mem_append]
      refine Or.inr (Or.inl (weights_all ?_ hm))
      exact List.mem_map.2 ⟨i, List.mem_range.2 hi, rfl⟩)
    have hcount : n * 80 ≤ 140737488351232 := by
      refine Nat.le_trans ?_ (hR ((n + (m - n)) * 80) ?_)
      · omega
      · simp only [DataW.weights, Try.underlying47, List.length_map, List.length_range, hb80]
        exact List.mem_cons_self
    have hform : 0 < n → ∃ b off, a = ⟨b, off, none⟩ := fun h0 => by
      obtain ⟨cs', h1, h2⟩ := hx 0 (by omega)
      rw [show Try.prog.cellsOf 56 = 7 by kernel_rfl] at h1
      obtain ⟨_, hlen, hcell⟩ := World.cells?_some h1
      obtain ⟨q, B, cc, rfl, _, _, _⟩ := trod_peerz h2
      have c0 := hcell 0 (by omega)
      obtain ⟨b, off, spot⟩ := a
      have hspot : spot = none := by simpa [Addr.add] using World.cell?_spot (c0.trans rfl)
      subst hspot
      exact ⟨b, off, rfl⟩
    have each : ∀ i, i < n → ∃ q : Peer, ((q.id.size ≤ 9223372036854775807 ∧ q.vals.length * 8 ≤ 140737488351232) ∧ ∃ b off, a = ⟨b, off, none⟩ ∧ b < w.heap.size ∧ PeerAt w b (off + i * 7) q (fun _ => True)) := by
      intro i hi
      obtain ⟨cs', h1, h2⟩ := hx i (by omega)
      rw [show Try.prog.cellsOf 56 = 7 by kernel_rfl] at h1
      obtain ⟨_, hlen, hcell⟩ := World.cells?_some h1
      obtain ⟨q, B, cc, rfl, hin, hsz, hvz⟩ := trod_peerz h2
      obtain ⟨b, off, rfl⟩ := hform (by omega)
      have cell : ∀ t, t < 7 → ∀ y, [Value.string q.id, .int .i64 q.inc, .int .i64 q.seq, .int .i64 q.drops, .int .i64 q.cap, .slice B q.vals.length cc, .int .i64 q.last][t]? = some y → w.cell? ⟨b, off + i * 7 + t, none⟩ = some y := fun t ht y hy => by
        have := hcell t ht
        rw [add_add, Go.WideShapes.add_plain, hy] at this
        rw [Nat.add_assoc]; exact this
      refine ⟨q, ⟨hsz, hvz _ (hw i hi)⟩, b, off, rfl, World.block_lt_of_cell? w _ (cell 0 (by omega) _ rfl), ?_⟩
      exact ⟨cell 0 (by omega) _ rfl, cell 1 (by omega) _ rfl, cell 2 (by omega) _ rfl, cell 3 (by omega) _ rfl, cell 4 (by omega) _ rfl, cell 6 (by omega) _ rfl, B, cc, cell 5 (by omega) _ rfl, hin, fun _ _ _ => trivial⟩
    obtain ⟨q, hq⟩ := choose_lt each
    have hg : ∀ i, i < n → ((List.range n).map q).getD i default = q i := fun i hi => by simp [List.getD_eq_getElem?_getD, hi]
    unfold maxLen at hm
    refine ⟨some a, n, _, (List.range n).map q, rfl, ⟨by simp, fun h0 => ?_⟩, by omega, fun i hi => by rw [hg i hi]; exact (hq i hi).1.1, (fun e => by cases e), hcount, fun i hi => by rw [hg i hi]; exact (hq i hi).1.2⟩
    obtain ⟨_, b, off, rfl, hb, _⟩ := hq 0 h0
    refine ⟨b, off, rfl, hb, trivial, fun i hi => ?_⟩
    rw [hg i hi]
    obtain ⟨_, b', off', e, _, hp⟩ := hq i hi
    simp only [Addr.mk.injEq, and_true] at e
    obtain ⟨rfl, rfl⟩ := e
    exact hp
end
end Go.Proofs.Ytpomdnglknbanaa
