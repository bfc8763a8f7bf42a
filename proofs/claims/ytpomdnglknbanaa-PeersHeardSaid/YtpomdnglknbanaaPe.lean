/-
  Peers in memory: tables as rows of seven cells; peers.Check.
-/
import Derived.Test.YtpomdnglknbanaaPp
import Derived.Test.YtpomdnglknbanaaLs
import Derived.Test.YtpomdnglknbanaaBe
import Derived.Test.YtpomdnglknbanaaWi
set_option linter.unusedSimpArgs false
set_option linter.unusedVariables false
namespace Go.Proofs.Ytpomdnglknbanaa
open Go.RowKit

/-- A peer's cells at b, o; its window's row lies in a block of which f holds. -/
def PeerAt (w : World) (b o : Nat) (p : Peer) (f : Nat → Prop) : Prop :=
  w.cell? ⟨b, o, none⟩ = some (.string p.id) ∧ w.cell? ⟨b, o + 1, none⟩ = some (.int .i64 p.inc) ∧ w.cell? ⟨b, o + 2, none⟩ = some (.int .i64 p.seq) ∧ w.cell? ⟨b, o + 3, none⟩ = some (.int .i64 p.drops) ∧
  w.cell? ⟨b, o + 4, none⟩ = some (.int .i64 p.cap) ∧ w.cell? ⟨b, o + 6, none⟩ = some (.int .i64 p.last) ∧
  ∃ A c, w.cell? ⟨b, o + 5, none⟩ = some (.slice A p.vals.length c) ∧ InRow w A p.vals.length c p.vals ∧ ∀ g off, A = some ⟨g, off, none⟩ → f g
/-- The slice with address A and n elements reads as L; all that is read lies in blocks of which f holds. -/
def PRow (w : World) (A : Option Addr) (n : Nat) (L : List Peer) (f : Nat → Prop) : Prop :=
  L.length = n ∧ (0 < n → ∃ b off, A = some ⟨b, off, none⟩ ∧ b < w.heap.size ∧ f b ∧ ∀ k, k < n → PeerAt w b (off + k * 7) (L.getD k default) f)
/-- Where f holds nothing has changed. -/
def Same (f : Nat → Prop) (w w' : World) : Prop := w.heap.size ≤ w'.heap.size ∧ ∀ b, b < w.heap.size → f b → w'.heap[b]? = w.heap[b]?
theorem Same.of_below {f : Nat → Prop} {w w' : World} (h : Below w.heap.size w w') : Same f w w' := ⟨h.size, fun b hb _ => h.block b hb⟩
theorem cell_same {w w' : World} {b o : Nat} (e : w'.heap[b]? = w.heap[b]?) : w'.cell? ⟨b, o, none⟩ = w.cell? ⟨b, o, none⟩ := World.cell?_of_block (w := w) (w' := w') e
theorem Row.same {f : Nat → Prop} {w w' : World} {A : Option Addr} {n : Nat} {l : List Int} (h : Row w A n l) (hf : ∀ g off, A = some ⟨g, off, none⟩ → f g) (hs : Same f w w') : Row w' A n l := by
  refine ⟨h.1, fun hn => ?_⟩
  obtain ⟨b, off, e, lt, hc⟩ := h.2 hn
  refine ⟨b, off, e, Nat.lt_of_lt_of_le lt hs.1, fun k hk => ?_⟩
  rw [cell_same (hs.2 b lt (hf b off e))]
  exact hc k hk
theorem InRow.same {f : Nat → Prop} {w w' : World} {A : Option Addr} {n c : Nat} {l : List Int} (h : InRow w A n c l) (hf : ∀ g off, A = some ⟨g, off, none⟩ → f g) (hs : Same f w w') : InRow w' A n c l := ⟨h.1.same hf hs, h.2⟩
theorem PeerAt.same {f : Nat → Prop} {w w' : World} {b o : Nat} {p : Peer} (h : PeerAt w b o p f) (hb : b < w.heap.size) (hf : f b) (hs : Same f w w') : PeerAt w' b o p f := by
  obtain ⟨h0, h1, h2, h3, h4, h6, A, c, h5, hr, hg⟩ := h
  have e := hs.2 b hb hf
  exact ⟨(cell_same e).trans h0, (cell_same e).trans h1, (cell_same e).trans h2, (cell_same e).trans h3, (cell_same e).trans h4, (cell_same e).trans h6, A, c, (cell_same e).trans h5, hr.same hg hs, hg⟩
theorem PRow.same {f : Nat → Prop} {w w' : World} {A : Option Addr} {n : Nat} {L : List Peer} (h : PRow w A n L f) (hs : Same f w w') : PRow w' A n L f := by
  refine ⟨h.1, fun hn => ?_⟩
  obtain ⟨b, off, e, lt, hf, hc⟩ := h.2 hn
  exact ⟨b, off, e, Nat.lt_of_lt_of_le lt hs.1, hf, fun k hk => (hc k hk).same lt hf hs⟩
theorem PeerAt.imp {f g : Nat → Prop} {w : World} {b o : Nat} {p : Peer} (h : PeerAt w b o p f) (hi : ∀ x, f x → g x) : PeerAt w b o p g := by
  obtain ⟨h0, h1, h2, h3, h4, h6, A, c, h5, hr, hg⟩ := h
  exact ⟨h0, h1, h2, h3, h4, h6, A, c, h5, hr, fun g' off e => hi _ (hg g' off e)⟩
theorem PRow.imp {f g : Nat → Prop} {w : World} {A : Option Addr} {n : Nat} {L : List Peer} (h : PRow w A n L f) (hi : ∀ x, f x → g x) : PRow w A n L g := by
  refine ⟨h.1, fun hn => ?_⟩
  obtain ⟨b, off, e, lt, hf, hc⟩ := h.2 hn
  exact ⟨b, off, e, lt, hi _ hf, fun k hk => (hc k hk).imp hi⟩
theorem PRow.below {f : Nat → Prop} {w w' : World} {A : Option Addr} {n : Nat} {L : List Peer} (h : PRow w A n L f) (hb : Below w.heap.size w w') : PRow w' A n L f := h.same (Same.of_below hb)
theorem PRow.nil (w : World) (A : Option Addr) (f : Nat → Prop) : PRow w A 0 [] f := ⟨rfl, fun h => absurd h (by omega)⟩
theorem PRow.at {f : Nat → Prop} {w : World} {A : Option Addr} {n : Nat} {L : List Peer} (h : PRow w A n L f) {k : Nat} (hk : k < n) : ∃ b off, A = some ⟨b, off, none⟩ ∧ b < w.heap.size ∧ f b ∧ PeerAt w b (off + k * 7) (L.getD k default) f := by
  obtain ⟨b, off, e, lt, hf, hc⟩ := h.2 (by omega)
  exact ⟨b, off, e, lt, hf, hc k hk⟩
/-- The first k peers may be, and are in order. -/
def Good (L : List Peer) (k : Nat) : Prop := ∀ j, j < k → PeerOK (L.getD j default) ∧ (0 < j → sl (L.getD (j - 1) default).id (L.getD j default).id = true)
theorem pair_adj {L : List Peer} (h : ∀ j, j < L.length → 0 < j → sl (L.getD (j - 1) default).id (L.getD j default).id = true) : L.Pairwise (fun p q => sl p.id q.id = true) := by
  rw [List.pairwise_iff_getElem]
  intro i j hi hj hij
  have hg : ∀ k (hk : k < L.length), L.getD k default = L[k] := fun k hk => by simp [List.getD_eq_getElem?_getD, hk]
  induction j with
  | zero => omega
  | succ j ih =>
    have h1 := h (j + 1) hj (by omega)
    rw [show j + 1 - 1 = j by omega, hg j (by omega), hg (j + 1) hj] at h1
    rcases Nat.lt_or_ge i j with c | c
    · exact sl_trans (ih (by omega) c) h1
    · obtain rfl : i = j := by omega
      exact h1
theorem good_tab {L : List Peer} (hl : L.length ≤ 6) (h : Good L L.length) : TabOK L := by
  refine ⟨hl, fun p hp => ?_, pair_adj fun j hj h0 => (h j hj).2 h0⟩
  obtain ⟨k, hk, rfl⟩ := List.getElem_of_mem hp
  have := (h k hk).1
  simpa [List.getD_eq_getElem?_getD, hk] using this
theorem tab_good {L : List Peer} (h : TabOK L) : Good L L.length := by
  have hg : ∀ k (hk : k < L.length), L.getD k default = L[k] := fun k hk => by simp [List.getD_eq_getElem?_getD, hk]
  intro j hj
  refine ⟨by rw [hg j hj]; exact h.each _ (List.getElem_mem _), fun h0 => ?_⟩
  rw [hg _ (by omega), hg j hj]
  exact List.pairwise_iff_getElem.1 h.order _ _ (by omega) hj (by omega)
set_option maxHeartbeats 1000000 in
theorem wcheck_bad (z : Int) (A : Option Addr) (n c : Nat) (l : List Int) (w : World) (hr : Row w A n l) (hm : n ≤ 9223372036854775807) (hb : ¬ WinOK z l) :
    Calls Try.prog 96 #[.agg #[.int .i64 z, .slice A n c]] w fun e w' => (∃ k : Int, (k != 0) = true ∧ e = .returned (.int .i64 k)) ∧ Below w.heap.size w w' := by
  have hl := hr.1
  have qa := alloc_cells
  have qf := alloc_frozens
  have HR := Lib.hid hr
  by_cases h1 : z < 1
  · clear hr hb
    go_enter Try.func96, Try.ntmps96
    go_wp2_with fail
    go_ret
    exact ⟨⟨1, by decide, rfl⟩, (by repeat (first | (with_reducible exact Below.refl _ _) | ((with_reducible refine Below.alloc ?_ ?_ _); rotate_left; (next => ((try dsimp only); (try simp only [World.size_alloc, World.size_setCell, World.size_drew]); omega))) | ((with_reducible refine Below.setCell ?_ ?_ _); rotate_left; (next => ((try dsimp only); (try simp only [World.size_alloc, World.size_setCell, World.size_drew]); omega))) | (with_reducible refine Below.drew ?_) | (refine Below.trans ?_ (by assumption))))⟩
  · by_cases h2 : 64 < z
    · clear hr hb
      go_enter Try.func96, Try.ntmps96
      go_wp2_with fail
      go_ret
      exact ⟨⟨1, by decide, rfl⟩, (by repeat (first | (with_reducible exact Below.refl _ _) | ((with_reducible refine Below.alloc ?_ ?_ _); rotate_left; (next => ((try dsimp only); (try simp only [World.size_alloc, World.size_setCell, World.size_drew]); omega))) | ((with_reducible refine Below.setCell ?_ ?_ _); rotate_left; (next => ((try dsimp only); (try simp only [World.size_alloc, World.size_setCell, World.size_drew]); omega))) | (with_reducible refine Below.drew ?_) | (refine Below.trans ?_ (by assumption))))⟩
    · by_cases h3 : z < (n : Int)
      · clear hr hb
        go_enter Try.func96, Try.ntmps96
        go_wp2_with fail
        go_ret
        exact ⟨⟨2, by decide, rfl⟩, (by repeat (first | (with_reducible exact Below.refl _ _) | ((with_reducible refine Below.alloc ?_ ?_ _); rotate_left; (next => ((try dsimp only); (try simp only [World.size_alloc, World.size_setCell, World.size_drew]); omega))) | ((with_reducible refine Below.setCell ?_ ?_ _); rotate_left; (next => ((try dsimp only); (try simp only [World.size_alloc, World.size_setCell, World.size_drew]); omega))) | (with_reducible refine Below.drew ?_) | (refine Below.trans ?_ (by assumption))))⟩
      · have hv : ¬ Btw 0 16777216 l := fun h => hb ⟨by omega, by omega, by omega, h⟩
        have HC := Lib.hid (fun w' (h : Row w' A n l) => list_bad A n c l w' h (by omega) hv)
        clear hr hb hv
        go_enter Try.func96, Try.ntmps96
        go_wp2_with fail
        refine (HC.out _ (HR.out.below (by repeat (first | (with_reducible exact Below.refl _ _) | ((with_reducible refine Below.alloc ?_ ?_ _); rotate_left; (next => ((try dsimp only); (try simp only [World.size_alloc, World.size_setCell, World.size_drew]); omega))) | ((with_reducible refine Below.setCell ?_ ?_ _); rotate_left; (next => ((try dsimp only); (try simp only [World.size_alloc, World.size_setCell, World.size_drew]); omega))) | (with_reducible refine Below.drew ?_) | (refine Below.trans ?_ (by assumption)))))).mono ?_
        rintro e w' ⟨rfl, rfl⟩
        go_wp2_with fail
        go_ret
        exact ⟨⟨1, by decide, rfl⟩, (by repeat (first | (with_reducible exact Below.refl _ _) | ((with_reducible refine Below.alloc ?_ ?_ _); rotate_left; (next => ((try dsimp only); (try simp only [World.size_alloc, World.size_setCell, World.size_drew]); omega))) | ((with_reducible refine Below.setCell ?_ ?_ _); rotate_left; (next => ((try dsimp only); (try simp only [World.size_alloc, World.size_setCell, World.size_drew]); omega))) | (with_reducible refine Below.drew ?_) | (refine Below.trans ?_ (by assumption))))⟩
end Go.Proofs.Ytpomdnglknbanaa
