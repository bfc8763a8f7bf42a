/-
  Peers in memory of the call's own; peers.Copied.
-/
import Derived.Test.YtpomdnglknbanaaPe
import Derived.Test.YtpomdnglknbanaaCl
import Derived.Test.YtpomdnglknbanaaPu
set_option linter.unusedSimpArgs false
set_option linter.unusedVariables false
namespace Go.Proofs.Ytpomdnglknbanaa
open Go.RowKit

/-- Seven values are a peer whose window's row is the call's own. -/
def PV (w : World) (base : Nat) (p : Peer) (u : List Value) : Prop :=
  ∃ v, u = [.string p.id, .int .i64 p.inc, .int .i64 p.seq, .int .i64 p.drops, .int .i64 p.cap, v, .int .i64 p.last] ∧ w.ownsRow base 3 1 v p.vals.length (p.vals.map (Value.int .i64))
/-- The values of a row of peers. -/
def PVs (w : World) (base : Nat) : List Peer → List Value → Prop
  | [], xs => xs = []
  | p :: L, xs => ∃ u r, xs = u ++ r ∧ PV w base p u ∧ PVs w base L r
theorem PV.len {w : World} {base : Nat} {p : Peer} {u : List Value} (h : PV w base p u) : u.length = 7 := by
  obtain ⟨v, rfl, _⟩ := h; rfl
theorem PV.one {w : World} {base : Nat} {p : Peer} {u : List Value} (h : PV w base p u) : ∀ x ∈ u, x.oneCell' = true := by
  obtain ⟨v, rfl, ho⟩ := h
  obtain ⟨A, c, rfl, _⟩ := own_form ho
  intro x hx
  simp at hx
  rcases hx with rfl | rfl | rfl | rfl | rfl | rfl | rfl <;> rfl
theorem PVs.len {w : World} {base : Nat} : ∀ {L : List Peer} {xs : List Value}, PVs w base L xs → xs.length = L.length * 7
  | [], xs, h => by simp only [PVs] at h; subst h; rfl
  | p :: L, xs, h => by
    obtain ⟨u, r, rfl, hu, hr⟩ := h
    have := hu.len
    have := hr.len
    simp; omega
theorem PVs.one {w : World} {base : Nat} : ∀ {L : List Peer} {xs : List Value}, PVs w base L xs → ∀ x ∈ xs, x.oneCell' = true
  | [], xs, h => by simp only [PVs] at h; subst h; intro x hx; cases hx
  | p :: L, xs, h => by
    obtain ⟨u, r, rfl, hu, hr⟩ := h
    intro x hx
    rcases List.mem_append.1 hx with h' | h'
    · exact hu.one x h'
    · exact hr.one x h'
/-- What keeps the rows keeps the peers. -/
def Owns (w w' : World) (base : Nat) : Prop := ∀ (e s n : Nat) (v : Value) (xs : List Value), w.ownsRow base e s v n xs → w'.ownsRow base e s v n xs
theorem PV.kept {w w' : World} {base base' : Nat} {p : Peer} {u : List Value} (h : PV w base p u) (hk : ∀ v n xs, w.ownsRow base 3 1 v n xs → w'.ownsRow base' 3 1 v n xs) : PV w' base' p u := by
  obtain ⟨v, e, ho⟩ := h
  exact ⟨v, e, hk _ _ _ ho⟩
theorem PVs.kept {w w' : World} {base base' : Nat} (hk : ∀ v n xs, w.ownsRow base 3 1 v n xs → w'.ownsRow base' 3 1 v n xs) : ∀ {L : List Peer} {xs : List Value}, PVs w base L xs → PVs w' base' L xs
  | [], xs, h => h
  | p :: L, xs, h => by
    obtain ⟨u, r, e, hu, hr⟩ := h
    exact ⟨u, r, e, hu.kept hk, hr.kept hk⟩
theorem PVs.below {w w' : World} {base : Nat} {L : List Peer} {xs : List Value} (h : PVs w base L xs) (hb : Below w.heap.size w w') : PVs w' base L xs := h.kept fun _ _ _ ho => own_below ho hb
theorem PVs.mono {w : World} {base base' : Nat} {L : List Peer} {xs : List Value} (h : PVs w base L xs) (hb : base' ≤ base) : PVs w base' L xs := h.kept fun _ _ _ ho => own_mono ho hb
/-- Writing into a block of another kind keeps a row. -/
theorem own_other {w w' : World} {base g : Nat} {v : Value} {n s : Nat} {e T : TypeId} {xs : List Value} {cur : Array Value} {fz : Nat × Nat} (h : w.ownsRow base e s v n xs) (hg : w.heap[g]? = some (.cells cur T fz)) (hT : T ≠ e)
    (hs : ∀ b, b < w.heap.size → b ≠ g → w'.heap[b]? = w.heap[b]?) : w'.ownsRow base e s v n xs := by
  refine ⟨h.1, ?_⟩
  rcases h.2 with h | ⟨b, cap, cr, e1, hb, hc, r⟩
  · exact .inl h
  · refine .inr ⟨b, cap, cr, e1, hb, ?_, r⟩
    rw [hs b (Array.getElem?_eq_some_iff.1 hc).1 (fun e => by subst e; rw [hc] at hg; injection hg with hg; injection hg with _ hg _; exact hT hg.symm)]
    exact hc
theorem PVs.app {w : World} {base : Nat} : ∀ {L M : List Peer} {xs ys : List Value}, PVs w base L xs → PVs w base M ys → PVs w base (L ++ M) (xs ++ ys)
  | [], M, xs, ys, h, k => by simp only [PVs] at h; subst h; exact k
  | p :: L, M, xs, ys, h, k => by
    obtain ⟨u, r, rfl, hu, hr⟩ := h
    exact ⟨u, r ++ ys, by simp, hu, hr.app k⟩
theorem PVs.singleton {w : World} {base : Nat} {p : Peer} {u : List Value} (h : PV w base p u) : PVs w base [p] u := ⟨u, [], by simp, h, rfl⟩
theorem PVs.take {w : World} {base : Nat} : ∀ {L : List Peer} {xs : List Value} (k : Nat), PVs w base L xs → PVs w base (L.take k) (xs.take (k * 7))
  | [], xs, k, h => by simp only [PVs] at h; subst h; simp [PVs]
  | p :: L, xs, 0, h => by simp [PVs]
  | p :: L, xs, k + 1, h => by
    obtain ⟨u, r, rfl, hu, hr⟩ := h
    have hl := hu.len
    refine ⟨u, r.take (k * 7), ?_, hu, hr.take k⟩
    rw [List.take_append, List.take_of_length_le (by omega), show (k + 1) * 7 - u.length = k * 7 by omega]
theorem PVs.drop {w : World} {base : Nat} : ∀ {L : List Peer} {xs : List Value} (k : Nat), PVs w base L xs → PVs w base (L.drop k) (xs.drop (k * 7))
  | [], xs, k, h => by simp only [PVs] at h; subst h; simp [PVs]
  | p :: L, xs, 0, h => by simpa using h
  | p :: L, xs, k + 1, h => by
    obtain ⟨u, r, rfl, hu, hr⟩ := h
    have hl := hu.len
    have e : (u ++ r).drop ((k + 1) * 7) = r.drop (k * 7) := by
      rw [List.drop_append, List.drop_of_length_le (l := u) (by omega), show (k + 1) * 7 - u.length = k * 7 by omega, List.nil_append]
    rw [e]
    exact hr.drop k
theorem PVs.get {w : World} {base : Nat} {L : List Peer} {xs : List Value} (h : PVs w base L xs) {k : Nat} (hk : k < L.length) : ∃ u, PV w base (L.getD k default) u ∧ ∀ i, i < 7 → xs[k * 7 + i]? = u[i]? := by
  have h1 := (h.drop k).take 1
  rw [List.drop_eq_getElem_cons hk, show (L[k] :: L.drop (k + 1)).take 1 = [L[k]] from rfl] at h1
  obtain ⟨u, r, e, hu, hr⟩ := h1
  simp only [PVs] at hr
  subst hr
  refine ⟨u, by simpa [List.getD_eq_getElem?_getD, hk] using hu, fun i hi => ?_⟩
  rw [List.append_nil] at e
  rw [← e, List.getElem?_take, if_pos (by omega), List.getElem?_drop]
theorem own_inRow {w : World} {base n : Nat} {v : Value} {l : List Int} (h : w.ownsRow base 3 1 v n (l.map (Value.int .i64))) : ∃ A c, v = .slice A n c ∧ InRow w A n c l ∧ ∀ g off, A = some ⟨g, off, none⟩ → base ≤ g ∧ g < w.heap.size := by
  obtain ⟨A, c, rfl, h1, h2, h3⟩ := own_form h
  refine ⟨A, c, rfl, ⟨Row.of_own h, h1, h2, h3⟩, fun g off e => ?_⟩
  have := h.lt g (by rw [e]; rfl)
  exact this
/-- An own row of peers as a table. -/
theorem prow_own {w : World} {base base' n c : Nat} {A : Option Addr} {xs : List Value} {L : List Peer} (h : w.ownsRow base 56 7 (.slice A n c) n xs) (hp : PVs w base' L xs) (hb : base' ≤ base) : PRow w A n L (fun b => base' ≤ b ∧ b < w.heap.size) := by
  have hl := hp.len
  have h1 := h.1
  refine ⟨by omega, fun hn => ?_⟩
  obtain ⟨g, cap, hv, _, hlt⟩ := h.form hn
  have hA : A = some ⟨g, 0, none⟩ := by injection hv
  subst hA
  have hge := (h.lt g rfl).1
  refine ⟨g, 0, rfl, hlt, ⟨Nat.le_trans hb hge, hlt⟩, fun k hk => ?_⟩
  obtain ⟨u, ⟨v, rfl, ho⟩, hu⟩ := hp.get (k := k) (by omega)
  obtain ⟨B, cc, rfl, hin, hbd⟩ := own_inRow ho
  have cell : ∀ i, i < 7 → ∀ y, [Value.string (L.getD k default).id, .int .i64 (L.getD k default).inc, .int .i64 (L.getD k default).seq, .int .i64 (L.getD k default).drops, .int .i64 (L.getD k default).cap, .slice B (L.getD k default).vals.length cc, .int .i64 (L.getD k default).last][i]? = some y → w.cell? ⟨g, 0 + k * 7 + i, none⟩ = some y := fun i hi y hy => by
    have := h.cells (g := g) rfl (k * 7 + i) y (by rw [hu i hi]; exact hy)
    rw [Go.WideShapes.add_plain] at this
    rw [Nat.add_assoc]; exact this
  exact ⟨cell 0 (by omega) _ rfl, cell 1 (by omega) _ rfl, cell 2 (by omega) _ rfl, cell 3 (by omega) _ rfl, cell 4 (by omega) _ rfl, cell 6 (by omega) _ rfl, B, cc, cell 5 (by omega) _ rfl, hin, hbd⟩
theorem info_peer : (Try.prog.info? 56).map (fun i => (i.zero, i.size, i.bytes)) = some (some (.agg #[.string ⟨#[]⟩, .int .i64 0, .int .i64 0, .int .i64 0, .int .i64 0, .slice none 0 0, .int .i64 0]), 7, 80) := by kernel_rfl
theorem heap_alloc_at {w : World} {o : Obj} {B : Nat} (h : w.heap.size = B) : (w.alloc o).heap[B]? = some o := by subst h; exact heap_alloc_new w o
theorem info_peers : Try.prog.underlying 47 = some (.slice 56) := by kernel_rfl
/-- A row of another kind is kept where one grows. -/
theorem own_grown_other {w w' : World} {base base2 e T s s2 n n2 : Nat} {v v2 : Value} {xs ys : List Value} (h : w.ownsRow base e s v n xs) (h2 : w.ownsRow base2 T s2 v2 n2 ys) (hT : T ≠ e) (hg : w.grownBy w' v2.ownBlock) : w'.ownsRow base e s v n xs := by
  rcases h2.2 with ⟨rfl, _⟩ | ⟨g, cap, cur, rfl, _, hc, _⟩
  · exact h.kept hg (Classical.em _)
  · refine own_other h hc hT (fun b hb hne => hg.block b hb (fun h' => hne ?_))
    simp only [Value.ownBlock, Option.some.injEq] at h'
    exact h'
theorem PVs.grown {w w' : World} {base base2 T s2 n2 : Nat} {v2 : Value} {ys xs : List Value} {L : List Peer} (h : PVs w base L xs) (h2 : w.ownsRow base2 T s2 v2 n2 ys) (hT : T ≠ 3) (hg : w.grownBy w' v2.ownBlock) : PVs w' base L xs :=
  h.kept fun _ _ _ ho => own_grown_other ho h2 hT hg
theorem PV.below {w w' : World} {base : Nat} {p : Peer} {u : List Value} (h : PV w base p u) (hb : Below w.heap.size w w') : PV w' base p u := h.kept fun _ _ _ ho => own_below ho hb

set_option maxRecDepth 100000 in
set_option maxHeartbeats 8000000 in
/-- peers.Copied: the same peers in memory of the call's own. -/
theorem copied_ok (A : Option Addr) (n c : Nat) (L : List Peer) (f : Nat → Prop) (w : World) (hr : PRow w A n L f) (hn : n ≤ 1000) (hv : ∀ k, k < n → (L.getD k default).vals.length ≤ 1000) :
    Calls Try.prog 98 #[.slice A n c] w fun e w' => ∃ A' c' xs, e = .returned (.slice A' n c') ∧ w'.ownsRow w.heap.size 56 7 (.slice A' n c') n xs ∧ PVs w' w.heap.size L xs ∧ Below w.heap.size w w' := by
  have HR := Lib.hid hr
  have hl := hr.1
  have HV := Lib.hid hv
  have HCl := Lib.hid (fun A n c l w' h hm => clone_own A n c l w' h hm)
  obtain ⟨i0, hi, hz0, hz1, hz2⟩ := info_parts info_peer
  clear hr hv
  have qa := alloc_cells
  have qf := alloc_frozens
  go_enter Try.func98, Try.ntmps98
  go_wp2_with fail
  go_loopw [3, 8] (fun v i wr => ∃ (k : Nat) (A' : Option Addr) (c' : Nat) (xs : List Value), k ≤ n ∧ i = .int .i64 k ∧ v = .slice A' k c' ∧ wr.ownsRow w.heap.size 56 7 (.slice A' k c') k xs ∧ PVs wr w.heap.size (L.take k) xs ∧ Below w.heap.size w wr) (fun _ i _ => n - (intOf i).toNat)
  case atStart => exact ⟨0, none, 0, [], Nat.zero_le _, rfl, rfl, World.ownsRow_nil _ _ _ _, by simp [PVs], (by repeat (first | (with_reducible exact Below.refl _ _) | ((with_reducible refine Below.alloc ?_ ?_ _); rotate_left; (next => ((try dsimp only); (try simp only [World.size_alloc, World.size_setCell, World.size_drew]); omega))) | ((with_reducible refine Below.setCell ?_ ?_ _); rotate_left; (next => ((try dsimp only); (try simp only [World.size_alloc, World.size_setCell, World.size_drew]); omega))) | (with_reducible refine Below.drew ?_) | (refine Below.trans ?_ (by assumption))))⟩
  case round =>
    obtain ⟨k, A', c', xs, hk, rfl, rfl, hown, hpv, bel⟩ := hrel
    have sz0 := bel.size
    by_cases hlt : k < n
    · obtain ⟨b, off, rfl, lb, _, hp⟩ := (HR.out.below bel).at hlt
      obtain ⟨p, hpk⟩ : ∃ p, L.getD k default = p := ⟨_, rfl⟩
      have hvl := HV.out k hlt
      rw [hpk] at hp hvl
      have htk : L.take (k + 1) = L.take k ++ [p] := by
        rw [List.take_succ_eq_append_getElem (by omega)]
        rw [← hpk]; simp [List.getD_eq_getElem?_getD, show k < L.length by omega]
      obtain ⟨k0, k1, k2, k3, k4, k6, B, cc, k5, hin, _⟩ := hp
      have HIn := Lib.hid hin.1
      have HTk := Lib.hid htk
      have B0 := Lib.hid bel
      have HO := Lib.hid hown
      have HP := Lib.hid hpv
      clear bel hin htk hown hpv hpk
      go_wp2_with fail
      refine (HCl.out B p.vals.length cc p.vals _ (HIn.out.below (by repeat (first | (with_reducible exact Below.refl _ _) | ((with_reducible refine Below.alloc ?_ ?_ _); rotate_left; (next => ((try dsimp only); (try simp only [World.size_alloc, World.size_setCell, World.size_drew]); omega))) | ((with_reducible refine Below.setCell ?_ ?_ _); rotate_left; (next => ((try dsimp only); (try simp only [World.size_alloc, World.size_setCell, World.size_drew]); omega))) | (with_reducible refine Below.drew ?_) | (refine Below.trans ?_ (by assumption))))) (by omega)).mono ?_
      rintro e w1 ⟨v1, rfl, own1, hb1⟩
      have z1 := hb1.size
      have c1 := Below.cells hb1
      have f1 := Below.frozens hb1
      try simp only [World.size_alloc, World.size_setCell, World.size_drew] at z1 c1 f1
      obtain ⟨A1, cc1, rfl, _, _, _⟩ := own_form own1
      have O1 := Lib.hid own1
      clear own1
      go_wp2_with (at_builtin; go_loud (refine wpList_append_own _ rfl _ _ 47 rfl (w.heap.size) 56 i0 _ 7 80 info_peers hi hz0 hz1 hz2 rfl (by decide) _ _ _ rfl (own_below HO.out (by repeat (first | (with_reducible exact Below.refl _ _) | ((with_reducible refine Below.alloc ?_ ?_ _); rotate_left; (next => ((try dsimp only); (try simp only [World.size_alloc, World.size_setCell, World.size_drew]); omega))) | ((with_reducible refine Below.setCell ?_ ?_ _); rotate_left; (next => ((try dsimp only); (try simp only [World.size_alloc, World.size_setCell, World.size_drew]); omega))) | (with_reducible refine Below.drew ?_) | ((with_reducible refine Below.trans ?_ (Below.mono hb1 ?_)); rotate_left; (next => ((try dsimp only); (try simp only [World.size_alloc, World.size_setCell, World.size_drew]); omega)))))) ⟨w1.heap.size, 0, none⟩ 1 1 [.string p.id, .int .i64 p.inc, .int .i64 p.seq, .int .i64 p.drops, .int .i64 p.cap, .slice A1 p.vals.length cc1, .int .i64 p.last] rfl rfl (World.news_of_block (cs := #[.string p.id, .int .i64 p.inc, .int .i64 p.seq, .int .i64 p.drops, .int .i64 p.cap, .slice A1 p.vals.length cc1, .int .i64 p.last]) (fr := (0, 0)) (heap_alloc_at (by simp))) (by simp [Value.oneCell']) (by unfold maxLen; omega) (by omega) (by simp; omega) ?_))
      intro vq wq ownq grq _
      have bw : Below wr.heap.size wr ((w1.setCell ⟨wr.heap.size, 5, none⟩ (.slice A1 p.vals.length cc1)).alloc (.cells #[.string p.id, .int .i64 p.inc, .int .i64 p.seq, .int .i64 p.drops, .int .i64 p.cap, .slice A1 p.vals.length cc1, .int .i64 p.last] 56)) := (by repeat (first | (with_reducible exact Below.refl _ _) | ((with_reducible refine Below.alloc ?_ ?_ _); rotate_left; (next => ((try dsimp only); (try simp only [World.size_alloc, World.size_setCell, World.size_drew]); omega))) | ((with_reducible refine Below.setCell ?_ ?_ _); rotate_left; (next => ((try dsimp only); (try simp only [World.size_alloc, World.size_setCell, World.size_drew]); omega))) | (with_reducible refine Below.drew ?_) | ((with_reducible refine Below.trans ?_ (Below.mono hb1 ?_)); rotate_left; (next => ((try dsimp only); (try simp only [World.size_alloc, World.size_setCell, World.size_drew]); omega)))))
      have O2 := own_below HO.out bw
      have PQ := Lib.hid ((HP.out.below bw).grown O2 (by decide) grq)
      have U1 := own_mono (own_grown_other ((own_set O1.out (b := wr.heap.size) (by simp) 5 (.slice A1 p.vals.length cc1)).alloc _) O2 (by decide) grq) (B' := w.heap.size) (by simp; omega)
      have PN := Lib.hid (PQ.out.app (PVs.singleton (p := p) ⟨_, rfl, U1⟩))
      have BQ := Lib.hid ((B0.out.trans (Below.mono bw sz0)).grown grq (by have := bw.size; omega) (fun g hg => (HO.out.lt g hg).1))
      obtain ⟨Aq, cq, rfl, _, _, _⟩ := own_form ownq
      have OQ := Lib.hid ownq
      clear ownq grq bw O2 U1
      go_wp2_with fail
      go_roundw
      case rel => exact ⟨k + 1, Aq, cq, _, by omega, by go_num, rfl, OQ.out, by rw [HTk.out]; exact PN.out, BQ.out⟩
      case measure => simp [intOf]; omega
    · obtain rfl : n = k := by omega
      rw [List.take_of_length_le (by omega)] at hpv
      have HO := Lib.hid hown
      have HP := Lib.hid hpv
      have B0 := Lib.hid bel
      clear hown hpv bel
      go_wp2_with fail
      go_ret
      exact ⟨A', c', xs, rfl, HO.out, HP.out, B0.out⟩
end Go.Proofs.Ytpomdnglknbanaa
