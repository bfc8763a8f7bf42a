/-
  peers.Add at a table that may be.
-/
import Derived.Test.YtpomdnglknbanaaIp
import Derived.Test.YtpomdnglknbanaaPk
import Derived.Test.YtpomdnglknbanaaPf
import Derived.Test.YtpomdnglknbanaaQM
set_option linter.unusedSimpArgs false
set_option linter.unusedVariables false
namespace Go.Proofs.Ytpomdnglknbanaa
open Go.RowKit

/-- A new peer. -/
def newP (id : ByteArray) (size first now : Int) : Peer := ⟨id, 0, 0, 0, size, [first], now⟩
theorem newP_ok {id : ByteArray} {size first now : Int} (hid : IdOK (byts id)) (hs : 1 ≤ size ∧ size ≤ 64) (hf : 0 ≤ first ∧ first ≤ 16777216) (hn : 0 ≤ now ∧ now ≤ 1073741824) : PeerOK (newP id size first now) :=
  ⟨hid, ⟨by simp [newP], by simp [newP], by simp [newP], by simp [newP], by simp [newP], by simp [newP], by simp [newP]⟩, ⟨hs.1, hs.2, by simp [newP]; omega, Btw.one hf.1 hf.2⟩, hn⟩
theorem TabOK.vals {L : List Peer} (h : TabOK L) : ∀ k, k < L.length → (L.getD k default).vals.length ≤ 64 := fun k hk => by
  have h1 := (tab_good h k hk).1.win
  have := h1.2.1
  have := h1.2.2.1
  omega
/-- A row of the call's own that holds L. -/
def Tab (w : World) (base : Nat) (A : Option Addr) (n c : Nat) (L : List Peer) : Prop := ∃ xs, w.ownsRow base 56 7 (.slice A n c) n xs ∧ PVs w base L xs
theorem Tab.below {w w' : World} {base n c : Nat} {A : Option Addr} {L : List Peer} (h : Tab w base A n c L) (hb : Below w.heap.size w w') : Tab w' base A n c L := by
  obtain ⟨xs, h1, h2⟩ := h
  exact ⟨xs, own_below h1 hb, h2.below hb⟩
theorem Tab.mono {w : World} {base base' n c : Nat} {A : Option Addr} {L : List Peer} (h : Tab w base A n c L) (hb : base' ≤ base) : Tab w base' A n c L := by
  obtain ⟨xs, h1, h2⟩ := h
  exact ⟨xs, own_mono h1 hb, h2.mono hb⟩
theorem Tab.row {w : World} {base n c : Nat} {A : Option Addr} {L : List Peer} (h : Tab w base A n c L) : PRow w A n L (fun b => base ≤ b ∧ b < w.heap.size) := by
  obtain ⟨xs, h1, h2⟩ := h
  exact prow_own h1 h2 (Nat.le_refl _)
theorem Tab.lt {w : World} {base n c : Nat} {A : Option Addr} {L : List Peer} (h : Tab w base A n c L) : ∀ g, (Value.slice A n c).ownBlock = some g → base ≤ g ∧ g < w.heap.size := by
  obtain ⟨xs, h1, _⟩ := h
  exact h1.lt
/-- The insertion, on tables. -/
theorem insT_ok (A : Option Addr) (n c i B base : Nat) (L : List Peer) (p : Peer) (us : List Value) (TB : TypeId) (w : World) (h : Tab w base A n c L) (hu : PV w base p us) (hB : w.heap[B]? = some (.cells us.toArray TB (0, 0))) (hBg : (Value.slice A n c).ownBlock ≠ some B)
    (hi : i ≤ n) (hn : n ≤ 1000) (hbase : base ≤ w.heap.size) :
    Calls Try.prog 106 #[.slice A n c, .int .i64 i, .slice (some ⟨B, 0, none⟩) 1 1] w fun e w' => ∃ A' c', e = .returned (.slice A' (n + 1) c') ∧ Tab w' base A' (n + 1) c' (L.take i ++ p :: L.drop i) ∧ Below base w w' := by
  obtain ⟨xs, h1, h2⟩ := h
  refine (insP_ok A n c i B base xs us TB w h1 h2.one hu.len hu.one hB hBg hi hn hbase).mono ?_
  rintro e w' ⟨A', c', rfl, h3, h4⟩
  have hne : (56 : TypeId) ≠ 3 := by decide
  have k2 := h2.grown h1 hne h4
  have ku : PV w' base p us := hu.kept fun _ _ _ ho => own_grown_other ho h1 hne h4
  refine ⟨A', c', rfl, ⟨_, h3, ?_⟩, ?_⟩
  · rw [List.append_assoc]
    exact (k2.take i).app (PVs.app (PVs.singleton ku) (k2.drop i))
  · exact ⟨h4.os, h4.tape, h4.output, h4.size, fun k hk => h4.block k (Nat.lt_of_lt_of_le hk hbase) (fun e => by have := (h1.lt _ e.symm).1; omega)⟩
theorem mul_zero_app : True := trivial

set_option maxRecDepth 100000 in
set_option maxHeartbeats 8000000 in
theorem add_ok (A : Option Addr) (n c : Nat) (L : List Peer) (f : Nat → Prop) (id : ByteArray) (size first now : Int) (w : World) (hr : PRow w A n L f) (h : TabOK L) (hid : IdOK (byts id)) (hs : 1 ≤ size ∧ size ≤ 64) (hf : 0 ≤ first ∧ first ≤ 16777216) (hnow : 0 ≤ now ∧ now ≤ 1073741824)
    (hno : has L id = false) (h6 : L.length < 6) :
    Calls Try.prog 38 #[.slice A n c, .string id, .int .i64 size, .int .i64 first, .int .i64 now] w fun e w' => ∃ A' c', e = .returned (.tuple #[.slice A' (n + 1) c', .int .i64 0]) ∧ Tab w' w.heap.size A' (n + 1) c' (addS (newP id size first now) L) ∧ Below w.heap.size w w' := by
  have hl := hr.1
  have HC := Lib.hid (fun w' (hr : PRow w' A n L f) => pcheck_ok A n c L f w' hr h)
  have HI := Lib.hid (fun w' => id_ok id w' hid)
  have HF := Lib.hid (fun w' (hr : PRow w' A n L f) => find_ok A n c L f id w' hr (by omega) h.order)
  have HCo := Lib.hid (fun w' (hr : PRow w' A n L f) => copied_ok A n c L f w' hr (by omega) (fun k hk => by have := h.vals k (by omega); omega))
  have HR := Lib.hid hr
  rw [hno] at HF
  have HP := Lib.hid (addS_pos (newP id size first now) L)
  have hpl := pos_le L id
  obtain ⟨P, hP⟩ : ∃ P, pos L id = P := ⟨_, rfl⟩
  rw [show (newP id size first now).id = id from rfl, hP] at HP
  rw [hP] at HF hpl
  obtain ⟨s1, s2⟩ := hs
  obtain ⟨fa, fb⟩ := hf
  obtain ⟨n1, n2⟩ := hnow
  have d1 : decide (size < 1) = false := by simp; omega
  have d2 : decide (64 < size) = false := by simp; omega
  have d3 : decide (now < 0) = false := by simp; omega
  have d4 : decide (1073741824 < now) = false := by simp; omega
  have n6 : ((n : Int) == 6) = false := by simp; omega
  have n6' : ¬ (n : Int) = 6 := by omega
  clear hr h hid hno hP
  have qa := alloc_cells
  have qf := alloc_frozens
  go_enter Try.func38, Try.ntmps38
  go_wp2_with fail
  refine (HC.out _ HR.out).mono ?_
  rintro e w1 ⟨rfl, hb1⟩
  have z1 := hb1.size
  have c1 := Below.cells hb1
  have f1 := Below.frozens hb1
  try simp only [World.size_alloc, World.size_setCell, World.size_drew] at z1 c1 f1
  go_wp2_with fail
  refine (HI.out _).mono ?_
  rintro e w' ⟨rfl, rfl⟩
  go_wp2_with fail
  refine (val_ok first fa fb _).mono ?_
  rintro e w' ⟨rfl, rfl⟩
  go_wp2_with fail
  refine (HF.out _ (HR.out.below hb1)).mono ?_
  rintro e w2 ⟨rfl, hb2⟩
  have z2 := hb2.size
  have c2 := Below.cells hb2
  have f2 := Below.frozens hb2
  try simp only [World.size_alloc, World.size_setCell, World.size_drew] at z2 c2 f2
  go_wp2_with fail
  have sz2 : w.heap.size ≤ w2.heap.size := by omega
  have BW := Lib.hid (show Below w.heap.size w ((w2.alloc (.cells #[.int .i64 first] 3)).alloc (.cells #[.string id, .int .i64 0, .int .i64 0, .int .i64 0, .int .i64 size, .slice (some ⟨w2.heap.size, 0, none⟩) 1 1, .int .i64 now] 56)) from (by repeat (first | (with_reducible exact Below.refl _ _) | ((with_reducible refine Below.alloc ?_ ?_ _); rotate_left; (next => ((try dsimp only); (try simp only [World.size_alloc, World.size_setCell, World.size_drew]); omega))) | ((with_reducible refine Below.setCell ?_ ?_ _); rotate_left; (next => ((try dsimp only); (try simp only [World.size_alloc, World.size_setCell, World.size_drew]); omega))) | (with_reducible refine Below.drew ?_) | ((with_reducible refine Below.trans ?_ (Below.mono hb2 ?_)); rotate_left; (next => ((try dsimp only); (try simp only [World.size_alloc, World.size_setCell, World.size_drew]); omega))) | ((with_reducible refine Below.trans ?_ (Below.mono hb1 ?_)); rotate_left; (next => ((try dsimp only); (try simp only [World.size_alloc, World.size_setCell, World.size_drew]); omega))))))
  have KF := Lib.hid (show ((w2.alloc (.cells #[.int .i64 first] 3)).alloc (.cells #[.string id, .int .i64 0, .int .i64 0, .int .i64 0, .int .i64 size, .slice (some ⟨w2.heap.size, 0, none⟩) 1 1, .int .i64 now] 56)).heap[w2.heap.size]? = some (.cells #[.int .i64 first] 3 (0, 0)) from (Below.heap_alloc _ _ _ (by simp)).trans (heap_alloc_new w2 _))
  have KB := Lib.hid (show ((w2.alloc (.cells #[.int .i64 first] 3)).alloc (.cells #[.string id, .int .i64 0, .int .i64 0, .int .i64 0, .int .i64 size, .slice (some ⟨w2.heap.size, 0, none⟩) 1 1, .int .i64 now] 56)).heap[w2.heap.size + 1]? = some (.cells #[.string id, .int .i64 0, .int .i64 0, .int .i64 0, .int .i64 size, .slice (some ⟨w2.heap.size, 0, none⟩) 1 1, .int .i64 now] 56 (0, 0)) from heap_alloc_at (by simp))
  have szW : ((w2.alloc (.cells #[.int .i64 first] 3)).alloc (.cells #[.string id, .int .i64 0, .int .i64 0, .int .i64 0, .int .i64 size, .slice (some ⟨w2.heap.size, 0, none⟩) 1 1, .int .i64 now] 56)).heap.size = w2.heap.size + 2 := by simp
  generalize ((w2.alloc (.cells #[.int .i64 first] 3)).alloc (.cells #[.string id, .int .i64 0, .int .i64 0, .int .i64 0, .int .i64 size, .slice (some ⟨w2.heap.size, 0, none⟩) 1 1, .int .i64 now] 56)) = W at BW KF KB szW ⊢
  have cellB : ∀ W' : World, W'.heap[w2.heap.size + 1]? = W.heap[w2.heap.size + 1]? → (W'.cell? ⟨w2.heap.size + 1, 0, none⟩ = some (.string id) ∧ W'.cell? ⟨w2.heap.size + 1, 1, none⟩ = some (.int .i64 0) ∧ W'.cell? ⟨w2.heap.size + 1, 2, none⟩ = some (.int .i64 0) ∧ W'.cell? ⟨w2.heap.size + 1, 3, none⟩ = some (.int .i64 0) ∧ W'.cell? ⟨w2.heap.size + 1, 4, none⟩ = some (.int .i64 size) ∧ W'.cell? ⟨w2.heap.size + 1, 5, none⟩ = some (.slice (some ⟨w2.heap.size, 0, none⟩) 1 1) ∧ W'.cell? ⟨w2.heap.size + 1, 6, none⟩ = some (.int .i64 now)) := fun W' e => by
    have e' := e.trans KB.out
    refine ⟨?_, ?_, ?_, ?_, ?_, ?_, ?_⟩ <;> (rw [cell_of_row _ _ _ _ _ _ e']; rfl)
  have HCB := Lib.hid cellB
  have HPV : Hid (∀ W' : World, W'.heap[w2.heap.size]? = W.heap[w2.heap.size]? → PV W' w.heap.size (newP id size first now) [.string id, .int .i64 0, .int .i64 0, .int .i64 0, .int .i64 size, .slice (some ⟨w2.heap.size, 0, none⟩) 1 1, .int .i64 now]) := fun W' e =>
    ⟨_, rfl, rfl, .inr ⟨w2.heap.size, 1, #[.int .i64 first], rfl, sz2, e.trans KF.out, Nat.le_refl _, by unfold maxLen; omega, rfl, rfl⟩⟩
  have HRW := Lib.hid (HR.out.below BW.out)
  clear hb1 hb2 c1 f1 c2 f2 qa qf z1 z2 cellB
  refine wp_region_M (fun w' => w'.cell? ⟨w2.heap.size + 1, 0, none⟩ = some (.string id) ∧ w'.cell? ⟨w2.heap.size + 1, 1, none⟩ = some (.int .i64 0) ∧ w'.cell? ⟨w2.heap.size + 1, 2, none⟩ = some (.int .i64 0) ∧ w'.cell? ⟨w2.heap.size + 1, 3, none⟩ = some (.int .i64 0) ∧ w'.cell? ⟨w2.heap.size + 1, 4, none⟩ = some (.int .i64 size) ∧ w'.cell? ⟨w2.heap.size + 1, 5, none⟩ = some (.slice (some ⟨w2.heap.size, 0, none⟩) 1 1) ∧ w'.cell? ⟨w2.heap.size + 1, 6, none⟩ = some (.int .i64 now)) (fun j => decide (5 ≤ j)) 8 rfl (by kernel_rfl) ?_
  have hH := HCB.out W.drew rfl
  (refine wpAnyM_take (i := 0) (v := ?_) rfl (by kernel_rfl) (by kernel_rfl) (by kernel_rfl) (by kernel_rfl) (fun _ _ _ h => h) (Or.inl ⟨by rfl, ?_⟩) hH ?_; (rotate_left; (intro w hSw; (try dsimp only at hSw); go_simp; try with_reducible rfl)); (try simp only [Act.put, List.setIfInBounds_toArray, List.set_cons_zero, List.set_cons_succ]))
  (refine wpAnyM_take (i := 2) (v := ?_) rfl (by kernel_rfl) (by kernel_rfl) (by kernel_rfl) (by kernel_rfl) (fun _ _ _ h => h) (Or.inl ⟨by rfl, ?_⟩) hH ?_; (rotate_left; (intro w hSw; (try dsimp only at hSw); go_simp; try with_reducible rfl)); (try simp only [Act.put, List.setIfInBounds_toArray, List.set_cons_zero, List.set_cons_succ]))
  (refine wpAnyM_take (i := 3) (v := ?_) rfl (by kernel_rfl) (by kernel_rfl) (by kernel_rfl) (by kernel_rfl) (fun _ _ _ h => h) (Or.inl ⟨by rfl, ?_⟩) hH ?_; (rotate_left; (intro w hSw; (try dsimp only at hSw); go_simp; try with_reducible rfl)); (try simp only [Act.put, List.setIfInBounds_toArray, List.set_cons_zero, List.set_cons_succ]))
  refine wpAnyM_two (i := 1) (j := 4) (by kernel_rfl) rfl rfl (fun K hK => ?_) (fun K hK => ?_)
  · go_simp
    refine (HCo.out _ (HRW.out.below (Below.drew (Below.refl _ W)))).mono ?_
    rintro e w3 ⟨A3, cc3, xs, rfl, own3, pv3, hb3⟩
    have z3 := hb3.size
    have z3' : w2.heap.size + 2 ≤ w3.heap.size := by rw [← szW]; exact z3
    have e1 : w3.heap[w2.heap.size + 1]? = W.heap[w2.heap.size + 1]? := hb3.block _ (by show _ < W.heap.size; omega)
    have e0 : w3.heap[w2.heap.size]? = W.heap[w2.heap.size]? := hb3.block _ (by show _ < W.heap.size; omega)
    have T3 : Tab w3 W.heap.size A3 n cc3 L := ⟨xs, own3, pv3⟩
    have N3 := T3.lt
    go_simp
    refine hK _ _ (fun _ => HCB.out w3 e1) ?_
    clear hK K
    refine wpAnyM_one (i := 4) (by kernel_rfl) rfl (fun K hK => ?_)
    go_simp
    have T4 := Lib.hid ((T3.below ((Below.refl _ w3).alloc (Nat.le_refl _) (.cells #[.string id, .int .i64 0, .int .i64 0, .int .i64 0, .int .i64 size, .slice (some ⟨w2.heap.size, 0, none⟩) 1 1, .int .i64 now] 56))).mono (show w.heap.size ≤ W.heap.size by omega))
    have V4 := Lib.hid (HPV.out (w3.alloc (.cells #[.string id, .int .i64 0, .int .i64 0, .int .i64 0, .int .i64 size, .slice (some ⟨w2.heap.size, 0, none⟩) 1 1, .int .i64 now] 56)) ((Below.heap_alloc _ _ _ (by omega)).trans e0))
    have G4 := Lib.hid (heap_alloc_at (w := w3) (o := (.cells #[.string id, .int .i64 0, .int .i64 0, .int .i64 0, .int .i64 size, .slice (some ⟨w2.heap.size, 0, none⟩) 1 1, .int .i64 now] 56)) rfl)
    have N4 : Hid ((Value.slice A3 n cc3).ownBlock ≠ some w3.heap.size) := fun e => by have := (N3 _ e).2; omega
    have B4 := Lib.hid ((BW.out.trans ((Below.drew (Below.refl _ W)).trans (hb3.mono (show w.heap.size ≤ W.heap.size by omega)))).alloc (show w.heap.size ≤ w3.heap.size by omega) (.cells #[.string id, .int .i64 0, .int .i64 0, .int .i64 0, .int .i64 size, .slice (some ⟨w2.heap.size, 0, none⟩) 1 1, .int .i64 now] 56))
    have zz4 : (w3.alloc (.cells #[.string id, .int .i64 0, .int .i64 0, .int .i64 0, .int .i64 size, .slice (some ⟨w2.heap.size, 0, none⟩) 1 1, .int .i64 now] 56)).heap.size = w3.heap.size + 1 := by simp
    have E1 := Lib.hid (HCB.out (w3.alloc (.cells #[.string id, .int .i64 0, .int .i64 0, .int .i64 0, .int .i64 size, .slice (some ⟨w2.heap.size, 0, none⟩) 1 1, .int .i64 now] 56)) ((Below.heap_alloc _ _ _ (by omega)).trans e1))
    clear T3 own3 pv3 hb3
    generalize w3.alloc (.cells #[.string id, .int .i64 0, .int .i64 0, .int .i64 0, .int .i64 size, .slice (some ⟨w2.heap.size, 0, none⟩) 1 1, .int .i64 now] 56) = w4 at T4 V4 G4 B4 zz4 E1 ⊢
    refine hK _ _ (fun _ => E1.out) ?_
    clear hK K
    refine wpAnyM_one (i := 5) (by kernel_rfl) rfl (fun K hK => ?_)
    go_simp
    refine (insT_ok A3 n cc3 P w3.heap.size w.heap.size L (newP id size first now) [.string id, .int .i64 0, .int .i64 0, .int .i64 0, .int .i64 size, .slice (some ⟨w2.heap.size, 0, none⟩) 1 1, .int .i64 now] 56 w4 T4.out V4.out G4.out N4.out (by omega) (by omega) (by omega)).mono ?_
    rintro e w5 ⟨A5, cc5, rfl, T5, hb5⟩
    have HT5 := Lib.hid T5
    have HB5 := Lib.hid (B4.out.trans hb5)
    clear T5 hb5
    go_simp
    refine hK _ _ (fun h => by cases h) ?_
    clear hK K
    refine wpAnyM_one (i := 6) (by kernel_rfl) rfl (fun K hK => ?_)
    go_simp
    refine hK _ _ (fun h => by cases h) ?_
    clear hK K
    refine wpAnyM_one (i := 7) (by kernel_rfl) rfl (fun K hK => ?_)
    go_simp
    refine hK _ _ (fun h => by cases h) ?_
    clear hK K
    refine wpAnyM_done (by kernel_rfl) ?_ _
    go_wp2_with fail
    go_ret2
    exact ⟨A5, cc5, rfl, by rw [HP.out]; exact HT5.out, HB5.out⟩
  · go_simp
    have e1 : ((W.alloc (.cells #[.string id, .int .i64 0, .int .i64 0, .int .i64 0, .int .i64 size, .slice (some ⟨w2.heap.size, 0, none⟩) 1 1, .int .i64 now] 56)).drew).heap[w2.heap.size + 1]? = W.heap[w2.heap.size + 1]? := Below.heap_alloc W _ _ (by omega)
    have e0 : ((W.alloc (.cells #[.string id, .int .i64 0, .int .i64 0, .int .i64 0, .int .i64 size, .slice (some ⟨w2.heap.size, 0, none⟩) 1 1, .int .i64 now] 56)).drew).heap[w2.heap.size]? = W.heap[w2.heap.size]? := Below.heap_alloc W _ _ (by omega)
    have eB : ((W.alloc (.cells #[.string id, .int .i64 0, .int .i64 0, .int .i64 0, .int .i64 size, .slice (some ⟨w2.heap.size, 0, none⟩) 1 1, .int .i64 now] 56)).drew).heap[W.heap.size]? = some (.cells #[.string id, .int .i64 0, .int .i64 0, .int .i64 0, .int .i64 size, .slice (some ⟨w2.heap.size, 0, none⟩) 1 1, .int .i64 now] 56 (0, 0)) := heap_alloc_new W _
    have zz3 : ((W.alloc (.cells #[.string id, .int .i64 0, .int .i64 0, .int .i64 0, .int .i64 size, .slice (some ⟨w2.heap.size, 0, none⟩) 1 1, .int .i64 now] 56)).drew).heap.size = W.heap.size + 1 := by show (W.alloc _).heap.size = _; simp
    have b3 : Below W.heap.size W ((W.alloc (.cells #[.string id, .int .i64 0, .int .i64 0, .int .i64 0, .int .i64 size, .slice (some ⟨w2.heap.size, 0, none⟩) 1 1, .int .i64 now] 56)).drew) := ((Below.refl _ W).alloc (Nat.le_refl _) _).drew
    generalize (W.alloc (.cells #[.string id, .int .i64 0, .int .i64 0, .int .i64 0, .int .i64 size, .slice (some ⟨w2.heap.size, 0, none⟩) 1 1, .int .i64 now] 56)).drew = w3 at e1 e0 eB zz3 b3 ⊢
    refine hK _ _ (fun _ => HCB.out w3 e1) ?_
    clear hK K
    refine wpAnyM_one (i := 1) (by kernel_rfl) rfl (fun K hK => ?_)
    go_simp
    refine (HCo.out _ (HRW.out.below b3)).mono ?_
    rintro e w4 ⟨A3, cc3, xs, rfl, own3, pv3, hb3⟩
    have z3 := hb3.size
    have T3 : Tab w4 w3.heap.size A3 n cc3 L := ⟨xs, own3, pv3⟩
    have N3 := T3.lt
    have T4 := Lib.hid (T3.mono (show w.heap.size ≤ w3.heap.size by omega))
    have V4 := Lib.hid (HPV.out w4 ((hb3.block _ (by omega)).trans e0))
    have G4 : Hid (w4.heap[w2.heap.size + 2]? = some (.cells #[.string id, .int .i64 0, .int .i64 0, .int .i64 0, .int .i64 size, .slice (some ⟨w2.heap.size, 0, none⟩) 1 1, .int .i64 now] 56 (0, 0))) := (hb3.block _ (by omega)).trans (by rw [← szW]; exact eB)
    have N4 : Hid ((Value.slice A3 n cc3).ownBlock ≠ some (w2.heap.size + 2)) := fun e => by have := (N3 _ e).1; omega
    have B4 := Lib.hid ((BW.out.trans (b3.mono (show w.heap.size ≤ W.heap.size by omega))).trans (hb3.mono (show w.heap.size ≤ w3.heap.size by omega)))
    have E1 := Lib.hid (HCB.out w4 ((hb3.block _ (by omega)).trans e1))
    clear T3 own3 pv3 hb3 b3 eB
    go_simp
    refine hK _ _ (fun _ => E1.out) ?_
    clear hK K
    refine wpAnyM_one (i := 5) (by kernel_rfl) rfl (fun K hK => ?_)
    go_simp
    refine (insT_ok A3 n cc3 P (w2.heap.size + 2) w.heap.size L (newP id size first now) [.string id, .int .i64 0, .int .i64 0, .int .i64 0, .int .i64 size, .slice (some ⟨w2.heap.size, 0, none⟩) 1 1, .int .i64 now] 56 w4 T4.out V4.out G4.out N4.out (by omega) (by omega) (by omega)).mono ?_
    rintro e w5 ⟨A5, cc5, rfl, T5, hb5⟩
    have HT5 := Lib.hid T5
    have HB5 := Lib.hid (B4.out.trans hb5)
    clear T5 hb5
    go_simp
    refine hK _ _ (fun h => by cases h) ?_
    clear hK K
    refine wpAnyM_one (i := 6) (by kernel_rfl) rfl (fun K hK => ?_)
    go_simp
    refine hK _ _ (fun h => by cases h) ?_
    clear hK K
    refine wpAnyM_one (i := 7) (by kernel_rfl) rfl (fun K hK => ?_)
    go_simp
    refine hK _ _ (fun h => by cases h) ?_
    clear hK K
    refine wpAnyM_done (by kernel_rfl) ?_ _
    go_wp2_with fail
    go_ret2
    exact ⟨A5, cc5, rfl, by rw [HP.out]; exact HT5.out, HB5.out⟩
end Go.Proofs.Ytpomdnglknbanaa
