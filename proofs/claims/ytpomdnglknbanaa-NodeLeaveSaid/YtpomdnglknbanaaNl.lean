/-
  (*Node).Leave, the contract of slices.DeleteFunc laid ahead (DelF: not proved here).
-/
import Derived.Test.YtpomdnglknbanaaNv
import Derived.Test.YtpomdnglknbanaaNn
set_option linter.unusedSimpArgs false
set_option linter.unusedVariables false
namespace Go.Proofs.Ytpomdnglknbanaa
open Go Go.RowKit
/-- What slices.DeleteFunc does with the closure of Leave. -/
def DelF : Prop := ∀ (A : Option Addr) (n c : Nat) (L : List Sub) (id : ByteArray) (b1 : Nat) (w : World), w.ownsRow 0 102 3 (.slice A n c) n (subsC L) → L.length = n → n ≤ 1000 → w.cell? ⟨b1, 0, none⟩ = some (.string id) → (Value.slice A n c).ownBlock ≠ some b1 →
    Calls Try.prog 124 #[.slice A n c, .func (.func 125) #[] #[.pointer (some ⟨b1, 0, none⟩)]] w fun e w' => e = .returned (.slice A (L.filter (fun u => !hitI id u)).length c) ∧
      w'.ownsRow 0 102 3 (.slice A (L.filter (fun u => !hitI id u)).length c) (L.filter (fun u => !hitI id u)).length (subsC (L.filter (fun u => !hitI id u))) ∧ w.grownBy w' (Value.slice A n c).ownBlock
theorem NRep.setSubsV {w w1 : World} {b c n : Nat} {A : Option Addr} {s : NSt} {f : Nat → Prop} {L : List Sub} (h : NRep w b s f) (h9 : w.cell? ⟨b, 9, none⟩ = some (.slice A n c)) (hg : w.grownBy w1 (Value.slice A n c).ownBlock) (ho : w1.ownsRow 0 102 3 (.slice A L.length c) L.length (subsC L)) :
    NRep (w1.setCell ⟨b, 9, none⟩ (.slice A L.length c)) b { s with subs := L } f ∧ Kept f w (w1.setCell ⟨b, 9, none⟩ (.slice A L.length c)) := by
  obtain ⟨A0, n0, c0, S, h1, h2, h3, h4, h5, h6⟩ := h
  obtain ⟨_, _, _, _, _, _, _, _, _, k9⟩ := h1.cells
  rw [k9] at h9
  cases h9
  have hz := hg.size
  have eo : (Value.slice A L.length c).ownBlock = (Value.slice A n c).ownBlock := by cases A <;> rfl
  have hbn : (Value.slice A n c).ownBlock ≠ some b := fun e => (h5 b e).2 rfl
  have blk : ∀ x, x < w.heap.size → (Value.slice A n c).ownBlock ≠ some x → w1.heap[x]? = w.heap[x]? := fun x hx hn => hg.block x hx (Ne.symm hn)
  refine ⟨⟨A0, n0, c0, _, ((h1.same (blk b (h6 b h2) hbn)).setSubs _), h2, ?_, own_elsewhere ho (by rw [eo]; exact hbn) _ _, fun x hx => h5 x (by rw [← eo]; exact hx), fun x hx => ?_⟩, ?_⟩
  · refine (h3.same ⟨by simpa using hz, fun x hx hfx => (Below.heap_setCell _ _ _ _ (fun e => hfx.2.1 e)).trans (blk x hx hfx.2.2)⟩).imp fun x hx => ⟨hx.1, hx.2.1, by rw [eo]; exact hx.2.2⟩
  · have := h6 x hx
    simp only [World.size_setCell]; omega
  · exact ⟨hg.os, hg.tape, hg.output, by simpa using hz, fun x hx hfx => (Below.heap_setCell _ _ _ _ (fun e => hfx (by rw [e]; exact h2))).trans (blk x hx (fun e => hfx (h5 x e).1))⟩
set_option maxRecDepth 100000 in
set_option maxHeartbeats 8000000 in
theorem nleave_none (b : Nat) (s : NSt) (f : Nat → Prop) (id : ByteArray) (w : World) (h : NRep w b s f) (ok : NOK s) (hno : has s.peers id = false) :
    Calls Try.prog 70 #[.pointer (some ⟨b, 0, none⟩), .string id] w fun e w' => e = .returned (.int .i64 4) ∧ Below w.heap.size w w' := by
  obtain ⟨A, pn, pc, S, hnd, hpr⟩ := h.node
  have hbl := hnd.lt
  obtain ⟨_, _, _, _, _, _, _, _, k8, _⟩ := hnd.cells
  have HPr := Lib.hid hpr
  have HDr := Lib.hid (fun w' (hr : PRow w' A pn s.peers f) => pdrop_none A pn pc s.peers f id w' hr ok.tab hno)
  clear h ok hnd hpr hno
  go_enter Try.func70, Try.ntmps70
  go_wp2_with fail
  have HW := (Below.refl w.heap.size w).alloc (Nat.le_refl _) (.cells #[.string id] 9)
  have HX : (w.alloc (.cells #[.string id] 9)).cell? ⟨w.heap.size, 0, none⟩ = some (.string id) := by simp [go_sem, ↓IntWalk.iteOmega, *]
  have HZ : w.heap.size < (w.alloc (.cells #[.string id] 9)).heap.size := by simp
  generalize w.alloc (.cells #[.string id] 9) = w0 at HW HX HZ ⊢
  have j8 := (HW.cell (p := ⟨b, 8, none⟩) hbl).trans k8
  have hbl0 : b < w0.heap.size := by omega
  have HWh := Lib.hid HW
  have kk : w0.drew.cell? ⟨b, 8, none⟩ = some (.slice A pn pc) ∧ w0.drew.cell? ⟨w.heap.size, 0, none⟩ = some (.string id) := ⟨j8, HX⟩
  clear HW k8
  refine wp_region_M (fun w' => w'.cell? ⟨b, 8, none⟩ = some (.slice A pn pc) ∧ w'.cell? ⟨w.heap.size, 0, none⟩ = some (.string id)) (fun j => decide (6 ≤ j)) 11 rfl (by kernel_rfl) ?_
  (refine wpAnyM_take (i := 0) (v := ?_) rfl (by kernel_rfl) (by kernel_rfl) (by kernel_rfl) (by kernel_rfl) (fun _ _ _ h => h) (Or.inl ⟨by rfl, ?_⟩) kk ?_; (rotate_left; (intro w hSw; (try dsimp only at hSw); go_simp; try with_reducible rfl)); (try simp only [Act.put, List.setIfInBounds_toArray, List.set_cons_zero, List.set_cons_succ]))
  (refine wpAnyM_take (i := 1) (v := ?_) rfl (by kernel_rfl) (by kernel_rfl) (by kernel_rfl) (by kernel_rfl) (fun _ _ _ h => h) (Or.inl ⟨by rfl, ?_⟩) kk ?_; (rotate_left; (intro w hSw; (try dsimp only at hSw); go_simp; try with_reducible rfl)); (try simp only [Act.put, List.setIfInBounds_toArray, List.set_cons_zero, List.set_cons_succ]))
  (refine wpAnyM_take (i := 2) (v := ?_) rfl (by kernel_rfl) (by kernel_rfl) (by kernel_rfl) (by kernel_rfl) (fun _ _ _ h => h) (Or.inl ⟨by rfl, ?_⟩) kk ?_; (rotate_left; (intro w hSw; (try dsimp only at hSw); go_simp; try with_reducible rfl)); (try simp only [Act.put, List.setIfInBounds_toArray, List.set_cons_zero, List.set_cons_succ]))
  (refine wpAnyM_take (i := 3) (v := ?_) rfl (by kernel_rfl) (by kernel_rfl) (by kernel_rfl) (by kernel_rfl) (fun _ _ _ h => h) (Or.inl ⟨by rfl, ?_⟩) kk ?_; (rotate_left; (intro w hSw; (try dsimp only at hSw); go_simp; try with_reducible rfl)); (try simp only [Act.put, List.setIfInBounds_toArray, List.set_cons_zero, List.set_cons_succ]))
  (refine wpAnyM_take (i := 4) (v := ?_) rfl (by kernel_rfl) (by kernel_rfl) (by kernel_rfl) (by kernel_rfl) (fun _ _ _ h => h) (Or.inl ⟨by rfl, ?_⟩) kk ?_; (rotate_left; (intro w hSw; (try dsimp only at hSw); go_simp; try with_reducible rfl)); (try simp only [Act.put, List.setIfInBounds_toArray, List.set_cons_zero, List.set_cons_succ]))
  refine wpAnyM_one (i := 5) (by kernel_rfl) rfl (fun K hK => ?_)
  go_simp
  refine (HDr.out _ (HPr.out.below (Below.drew HWh.out))).mono ?_
  rintro e w3 ⟨rfl, hb3⟩
  have hb0 : Below w0.heap.size w0 w3 := (Below.drew (Below.refl _ w0)).trans hb3
  have HB3 := Lib.hid (HWh.out.trans (Below.mono hb0 (by omega)))
  go_simp
  refine hK _ _ (fun _ => ⟨(hb0.cell (p := ⟨b, 8, none⟩) hbl0).trans j8, (hb0.cell (p := ⟨w.heap.size, 0, none⟩) HZ).trans HX⟩) ?_
  clear hK K
  refine wpAnyM_rest (by kernel_rfl) ?_
  (refine wpAny_take (i := 6) (v := ?_) rfl (by kernel_rfl) (by kernel_rfl) (by kernel_rfl) (fun _ _ _ h => h) (Or.inl ⟨by rfl, ?_⟩) ?_; (rotate_left; (intro w; go_simp; try with_reducible rfl)))
  (refine wpAny_take (i := 7) (v := ?_) rfl (by kernel_rfl) (by kernel_rfl) (by kernel_rfl) (fun _ _ _ h => h) (Or.inl ⟨by rfl, ?_⟩) ?_; (rotate_left; (intro w; go_simp; try with_reducible rfl)))
  (refine wpAny_take (i := 8) (v := ?_) rfl (by kernel_rfl) (by kernel_rfl) (by kernel_rfl) (fun _ _ _ h => h) (Or.inl ⟨by rfl, ?_⟩) ?_; (rotate_left; (intro w; go_simp; try with_reducible rfl)))
  (refine wpAny_take (i := 9) (v := ?_) rfl (by kernel_rfl) (by kernel_rfl) (by kernel_rfl) (fun _ _ _ h => h) (Or.inl ⟨by rfl, ?_⟩) ?_; (rotate_left; (intro w; go_simp; try with_reducible rfl)))
  (refine wpAny_take (i := 10) (v := ?_) rfl (by kernel_rfl) (by kernel_rfl) (by kernel_rfl) (fun _ _ _ h => h) (Or.inl ⟨by rfl, ?_⟩) ?_; (rotate_left; (intro w; go_simp; try with_reducible rfl)))
  refine wpAny_done (by kernel_rfl) ?_ _
  clear hb3 hb0 kk j8 HX
  go_simp
  go_wp2_with fail
  go_ret
  exact ⟨rfl, HB3.out⟩
theorem NRep.subIn {w : World} {b n : Nat} {s : NSt} {f : Nat → Prop} {A : Option Addr} {c : Nat} (h : NRep w b s f) (h9 : w.cell? ⟨b, 9, none⟩ = some (.slice A n c)) : ∀ g, (Value.slice A n c).ownBlock = some g → f g := fun g e => by
  obtain ⟨A0, n0, c0, S, h1, h2, h3, h4, h5, h6⟩ := h
  obtain ⟨_, _, _, _, _, _, _, _, _, k9⟩ := h1.cells
  rw [k9] at h9
  cases h9
  exact (h5 g e).1
def leaveS (s : NSt) (id : ByteArray) : NSt := { s with peers := dropS s.peers id, subs := s.subs.filter (fun u => !hitI id u) }
set_option maxRecDepth 100000 in
set_option maxHeartbeats 16000000 in
theorem nleave_ok (hdel : DelF) (b : Nat) (s : NSt) (f : Nat → Prop) (id : ByteArray) (w : World) (h : NRep w b s f) (ok : NOK s) (hyes : has s.peers id = true) :
    Calls Try.prog 70 #[.pointer (some ⟨b, 0, none⟩), .string id] w fun e w' => e = .returned (.int .i64 0) ∧ (∃ m, NRep w' b (leaveS s id) (ext f w.heap.size m)) ∧ Kept f w w' := by
  have HRep := Lib.hid h
  have h8 := ok.subs
  obtain ⟨A, pn, pc, S, hnd, hpr⟩ := h.node
  have hbl := hnd.lt
  have hfl := Lib.hid h.lt
  have HFb := Lib.hid h.fb
  obtain ⟨_, _, _, _, _, _, _, _, k8, _⟩ := hnd.cells
  have kf := hnd.frozen
  have HPr := Lib.hid hpr
  have HDr := Lib.hid (fun w' (hr : PRow w' A pn s.peers f) => pdrop_ok A pn pc s.peers f id w' hr ok.tab hyes)
  have HDel := Lib.hid hdel
  clear h ok hnd hpr hyes hdel
  go_enter Try.func70, Try.ntmps70
  go_wp2_with fail
  have HW := (Below.refl w.heap.size w).alloc (Nat.le_refl _) (.cells #[.string id] 9)
  have HX : (w.alloc (.cells #[.string id] 9)).cell? ⟨w.heap.size, 0, none⟩ = some (.string id) := by simp [go_sem, ↓IntWalk.iteOmega, *]
  have HZ : w.heap.size < (w.alloc (.cells #[.string id] 9)).heap.size := by simp
  generalize w.alloc (.cells #[.string id] 9) = w0 at HW HX HZ ⊢
  have j8 := (HW.cell (p := ⟨b, 8, none⟩) hbl).trans k8
  have hbl0 : b < w0.heap.size := by omega
  have jf : ∀ o, w0.frozen? ⟨b, o, none⟩ = false := fun o => (World.frozen?_of_block (HW.block b hbl)).trans (kf o)
  have HWh := Lib.hid HW
  have kk : w0.drew.cell? ⟨b, 8, none⟩ = some (.slice A pn pc) ∧ w0.drew.cell? ⟨w.heap.size, 0, none⟩ = some (.string id) := ⟨j8, HX⟩
  clear HW k8 kf
  refine wp_region_M (fun w' => w'.cell? ⟨b, 8, none⟩ = some (.slice A pn pc) ∧ w'.cell? ⟨w.heap.size, 0, none⟩ = some (.string id)) (fun j => decide (6 ≤ j)) 11 rfl (by kernel_rfl) ?_
  (refine wpAnyM_take (i := 0) (v := ?_) rfl (by kernel_rfl) (by kernel_rfl) (by kernel_rfl) (by kernel_rfl) (fun _ _ _ h => h) (Or.inl ⟨by rfl, ?_⟩) kk ?_; (rotate_left; (intro w hSw; (try dsimp only at hSw); go_simp; try with_reducible rfl)); (try simp only [Act.put, List.setIfInBounds_toArray, List.set_cons_zero, List.set_cons_succ]))
  (refine wpAnyM_take (i := 1) (v := ?_) rfl (by kernel_rfl) (by kernel_rfl) (by kernel_rfl) (by kernel_rfl) (fun _ _ _ h => h) (Or.inl ⟨by rfl, ?_⟩) kk ?_; (rotate_left; (intro w hSw; (try dsimp only at hSw); go_simp; try with_reducible rfl)); (try simp only [Act.put, List.setIfInBounds_toArray, List.set_cons_zero, List.set_cons_succ]))
  (refine wpAnyM_take (i := 2) (v := ?_) rfl (by kernel_rfl) (by kernel_rfl) (by kernel_rfl) (by kernel_rfl) (fun _ _ _ h => h) (Or.inl ⟨by rfl, ?_⟩) kk ?_; (rotate_left; (intro w hSw; (try dsimp only at hSw); go_simp; try with_reducible rfl)); (try simp only [Act.put, List.setIfInBounds_toArray, List.set_cons_zero, List.set_cons_succ]))
  (refine wpAnyM_take (i := 3) (v := ?_) rfl (by kernel_rfl) (by kernel_rfl) (by kernel_rfl) (by kernel_rfl) (fun _ _ _ h => h) (Or.inl ⟨by rfl, ?_⟩) kk ?_; (rotate_left; (intro w hSw; (try dsimp only at hSw); go_simp; try with_reducible rfl)); (try simp only [Act.put, List.setIfInBounds_toArray, List.set_cons_zero, List.set_cons_succ]))
  (refine wpAnyM_take (i := 4) (v := ?_) rfl (by kernel_rfl) (by kernel_rfl) (by kernel_rfl) (by kernel_rfl) (fun _ _ _ h => h) (Or.inl ⟨by rfl, ?_⟩) kk ?_; (rotate_left; (intro w hSw; (try dsimp only at hSw); go_simp; try with_reducible rfl)); (try simp only [Act.put, List.setIfInBounds_toArray, List.set_cons_zero, List.set_cons_succ]))
  refine wpAnyM_one (i := 5) (by kernel_rfl) rfl (fun K hK => ?_)
  go_simp
  refine (HDr.out _ (HPr.out.below (Below.drew HWh.out))).mono ?_
  rintro e w3 ⟨A3, c3, rfl, T3, hb3⟩
  have hb0 : Below w0.heap.size w0 w3 := (Below.drew (Below.refl _ w0)).trans hb3
  have N3 := Lib.hid ((HRep.out.below HWh.out).setPeers hb0 T3)
  have m8 := (hb0.cell (p := ⟨b, 8, none⟩) hbl0).trans j8
  have mx := (hb0.cell (p := ⟨w.heap.size, 0, none⟩) HZ).trans HX
  have mf : ∀ o, w3.frozen? ⟨b, o, none⟩ = false := fun o => (World.frozen?_of_block (hb0.block b hbl0)).trans (jf o)
  have K3 := Lib.hid (((Kept.of_below (f := f) (HWh.out.trans (Below.mono hb0 (by omega))))).set HFb.out 8 (.slice A3 (pn - 1) c3))
  have sz3 : w0.heap.size ≤ w3.heap.size := hb0.size
  go_simp
  refine hK _ _ (fun _ => ⟨m8, mx⟩) ?_
  clear hK K
  refine wpAnyM_rest (by kernel_rfl) ?_
  (refine wpAny_take (i := 6) (v := ?_) rfl (by kernel_rfl) (by kernel_rfl) (by kernel_rfl) (fun _ _ _ h => h) (Or.inl ⟨by rfl, ?_⟩) ?_; (rotate_left; (intro w; go_simp; try with_reducible rfl)))
  (refine wpAny_take (i := 7) (v := ?_) rfl (by kernel_rfl) (by kernel_rfl) (by kernel_rfl) (fun _ _ _ h => h) (Or.inl ⟨by rfl, ?_⟩) ?_; (rotate_left; (intro w; go_simp; try with_reducible rfl)))
  (refine wpAny_take (i := 8) (v := ?_) rfl (by kernel_rfl) (by kernel_rfl) (by kernel_rfl) (fun _ _ _ h => h) (Or.inl ⟨by rfl, ?_⟩) ?_; (rotate_left; (intro w; go_simp; try with_reducible rfl)))
  (refine wpAny_take (i := 9) (v := ?_) rfl (by kernel_rfl) (by kernel_rfl) (by kernel_rfl) (fun _ _ _ h => h) (Or.inl ⟨by rfl, ?_⟩) ?_; (rotate_left; (intro w; go_simp; try with_reducible rfl)))
  (refine wpAny_take (i := 10) (v := ?_) rfl (by kernel_rfl) (by kernel_rfl) (by kernel_rfl) (fun _ _ _ h => h) (Or.inl ⟨by rfl, ?_⟩) ?_; (rotate_left; (intro w; go_simp; try with_reducible rfl)))
  refine wpAny_done (by kernel_rfl) ?_ _
  clear hb3 hb0 kk j8 HX T3 jf
  go_simp
  have mx4 : (w3.setCell ⟨b, 8, none⟩ (.slice A3 (pn - 1) c3)).cell? ⟨w.heap.size, 0, none⟩ = some (.string id) := (World.cell?_setCell_other _ _ _ _ (fun e => by simp at e)).trans mx
  have mf4 : ∀ o, (w3.setCell ⟨b, 8, none⟩ (.slice A3 (pn - 1) c3)).frozen? ⟨b, o, none⟩ = false := fun o => by simpa using mf o
  have sz4 : (w3.setCell ⟨b, 8, none⟩ (.slice A3 (pn - 1) c3)).heap.size = w3.heap.size := by simp
  obtain ⟨A9, c9, m9, own9, hbl4, _⟩ := N3.out.subRow
  have m9' : (w3.setCell ⟨b, 8, none⟩ (.slice A3 (pn - 1) c3)).cell? ⟨b, 9, none⟩ = some (.slice A9 s.subs.length c9) := m9
  have o9 : (w3.setCell ⟨b, 8, none⟩ (.slice A3 (pn - 1) c3)).ownsRow 0 102 3 (.slice A9 s.subs.length c9) s.subs.length (subsC s.subs) := own9
  have off := N3.out.subOff m9'
  have sin := N3.out.subIn m9'
  have HCall := Lib.hid (HDel.out A9 s.subs.length c9 s.subs id w.heap.size _ o9 rfl (by omega) mx4 (fun e => by
    rcases sin _ e with h | h
    · have := hfl.out _ h; omega
    · omega))
  have HSet := Lib.hid (fun w1 hg ho => N3.out.setSubsV (w1 := w1) (n := s.subs.length) (c := c9) (A := A9) (L := s.subs.filter (fun u => !hitI id u)) m9' hg ho)
  have off' := Lib.hid off
  clear m9 own9 o9 off sin
  have c94 := Lib.hid m9'
  go_wp2_with fail
  refine HCall.out.mono ?_
  rintro e w5 ⟨rfl, own5, gr5⟩
  have b5 := gr5.block b (by rw [sz4]; omega) off'.out
  have m95 := (World.cell?_of_block (a := ⟨b, 9, none⟩) b5).trans c94.out
  have mf5 : ∀ o, w5.frozen? ⟨b, o, none⟩ = false := fun o => (World.frozen?_of_block b5).trans (mf4 o)
  have R5 := HSet.out w5 gr5 own5
  have z5 := gr5.size
  rw [sz4] at z5
  have NR5 := Lib.hid R5.1
  have K5 := Lib.hid (K3.out.trans R5.2 (fun x hx hfx => hfx.elim (fun h => h) (fun h => absurd h.1 (by omega))))
  clear R5 own5 gr5 b5 HSet
  go_wp2_with fail
  go_ret
  refine ⟨rfl, ⟨w3.heap.size, NR5.out.imp (fun x hx => hx.elim .inl (fun h => .inr ⟨by omega, h.2⟩)) (fun x hx => ?_)⟩, K5.out⟩
  simp only [World.size_setCell]
  rcases hx with h | h
  · have := hfl.out _ h; omega
  · have := h.2; omega
end Go.Proofs.Ytpomdnglknbanaa
