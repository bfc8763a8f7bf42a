/-
  (*Node).Watch, (*Node).Peers.
-/
import Derived.Test.YtpomdnglknbanaaNh
import Derived.Test.YtpomdnglknbanaaMh
set_option linter.unusedSimpArgs false
set_option linter.unusedVariables false
namespace Go.Proofs.Ytpomdnglknbanaa
open Go Go.RowKit
theorem NOK.add {s : NSt} {id : ByteArray} {every : Int} (ok : NOK s) (hid : IdOK (byts id)) (he : 0 ≤ every ∧ every ≤ 16777216) (hno : has s.peers id = false) (h6 : s.peers.length < 6) : NOK { s with peers := addS (newP id s.cap every s.now) s.peers } := by
  refine ⟨ok.id, ok.inc, ok.every, ok.cap, ok.least, ok.now, ok.seq, ok.drops, addS_tab ok.tab (newP_ok hid ok.cap he ok.now) h6 hno, fun p hp => ?_, ok.subs⟩
  rcases addS_mem.1 (show p ∈ addS (newP id s.cap every s.now) s.peers from hp) with rfl | hp'
  · exact ⟨by simp [newP], Int.le_refl _⟩
  · exact ok.wins p hp'
set_option maxRecDepth 100000 in
set_option maxHeartbeats 16000000 in
theorem nwatch_ok (b : Nat) (s : NSt) (f : Nat → Prop) (id : ByteArray) (every : Int) (w : World) (h : NRep w b s f) (ok : NOK s) (hne : id ≠ s.id) (hid : IdOK (byts id)) (he : 0 ≤ every ∧ every ≤ 16777216) (hno : has s.peers id = false) (h6 : s.peers.length < 6) :
    Calls Try.prog 27 #[.pointer (some ⟨b, 0, none⟩), .string id, .int .i64 every] w fun e w' => e = .returned (.int .i64 0) ∧ (∃ m, NRep w' b { s with peers := addS (newP id s.cap every s.now) s.peers } (ext f w.heap.size m)) ∧ Kept f w w' := by
  have HR := Lib.hid h
  obtain ⟨A, pn, pc, S, hnd, hpr⟩ := h.node
  have hbl := hnd.lt
  have hfb := h.fb
  have HFb := Lib.hid hfb
  obtain ⟨k0, _, _, k3, _, k5, _, _, k8, _⟩ := hnd.cells
  have kf := hnd.frozen
  have HPr := Lib.hid hpr
  have HAd := Lib.hid (fun w' (hr : PRow w' A pn s.peers f) => padd_ok A pn pc s.peers f id s.cap every s.now w' hr ok.tab hid ok.cap he ok.now hno h6)
  obtain ⟨X, hX⟩ : ∃ X, addS (newP id s.cap every s.now) s.peers = X := ⟨_, rfl⟩
  rw [hX] at HAd
  have HX := Lib.hid hX
  have hs := str_ne hne
  obtain ⟨cp, hcp⟩ : ∃ x, s.cap = x := ⟨_, rfl⟩
  obtain ⟨nw, hnw⟩ : ∃ x, s.now = x := ⟨_, rfl⟩
  rw [hcp] at k3
  rw [hnw] at k5
  rw [hcp, hnw] at HAd
  clear h ok hnd hfb hpr hX hne hid he hno h6 hcp hnw
  go_enter Try.func27, Try.ntmps27
  go_wp2_with fail
  have kk : w.drew.cell? ⟨b, 8, none⟩ = some (.slice A pn pc) ∧ w.drew.cell? ⟨b, 3, none⟩ = some (.int .i64 cp) ∧ w.drew.cell? ⟨b, 5, none⟩ = some (.int .i64 nw) := ⟨k8, k3, k5⟩
  refine wp_region_M (fun w' => w'.cell? ⟨b, 8, none⟩ = some (.slice A pn pc) ∧ w'.cell? ⟨b, 3, none⟩ = some (.int .i64 cp) ∧ w'.cell? ⟨b, 5, none⟩ = some (.int .i64 nw)) (fun j => decide (16 ≤ j)) 21 rfl (by kernel_rfl) ?_
  (refine wpAnyM_take (i := 0) (v := ?_) rfl (by kernel_rfl) (by kernel_rfl) (by kernel_rfl) (by kernel_rfl) (fun _ _ _ h => h) (Or.inl ⟨by rfl, ?_⟩) kk ?_; (rotate_left; (intro w hSw; (try dsimp only at hSw); go_simp; try with_reducible rfl)); (try simp only [Act.put, List.setIfInBounds_toArray, List.set_cons_zero, List.set_cons_succ]))
  (refine wpAnyM_take (i := 1) (v := ?_) rfl (by kernel_rfl) (by kernel_rfl) (by kernel_rfl) (by kernel_rfl) (fun _ _ _ h => h) (Or.inl ⟨by rfl, ?_⟩) kk ?_; (rotate_left; (intro w hSw; (try dsimp only at hSw); go_simp; try with_reducible rfl)); (try simp only [Act.put, List.setIfInBounds_toArray, List.set_cons_zero, List.set_cons_succ]))
  (refine wpAnyM_take (i := 2) (v := ?_) rfl (by kernel_rfl) (by kernel_rfl) (by kernel_rfl) (by kernel_rfl) (fun _ _ _ h => h) (Or.inl ⟨by rfl, ?_⟩) kk ?_; (rotate_left; (intro w hSw; (try dsimp only at hSw); go_simp; try with_reducible rfl)); (try simp only [Act.put, List.setIfInBounds_toArray, List.set_cons_zero, List.set_cons_succ]))
  (refine wpAnyM_take (i := 3) (v := ?_) rfl (by kernel_rfl) (by kernel_rfl) (by kernel_rfl) (by kernel_rfl) (fun _ _ _ h => h) (Or.inl ⟨by rfl, ?_⟩) kk ?_; (rotate_left; (intro w hSw; (try dsimp only at hSw); go_simp; try with_reducible rfl)); (try simp only [Act.put, List.setIfInBounds_toArray, List.set_cons_zero, List.set_cons_succ]))
  (refine wpAnyM_take (i := 4) (v := ?_) rfl (by kernel_rfl) (by kernel_rfl) (by kernel_rfl) (by kernel_rfl) (fun _ _ _ h => h) (Or.inl ⟨by rfl, ?_⟩) kk ?_; (rotate_left; (intro w hSw; (try dsimp only at hSw); go_simp; try with_reducible rfl)); (try simp only [Act.put, List.setIfInBounds_toArray, List.set_cons_zero, List.set_cons_succ]))
  (refine wpAnyM_take (i := 5) (v := ?_) rfl (by kernel_rfl) (by kernel_rfl) (by kernel_rfl) (by kernel_rfl) (fun _ _ _ h => h) (Or.inl ⟨by rfl, ?_⟩) kk ?_; (rotate_left; (intro w hSw; (try dsimp only at hSw); go_simp; try with_reducible rfl)); (try simp only [Act.put, List.setIfInBounds_toArray, List.set_cons_zero, List.set_cons_succ]))
  (refine wpAnyM_take (i := 6) (v := ?_) rfl (by kernel_rfl) (by kernel_rfl) (by kernel_rfl) (by kernel_rfl) (fun _ _ _ h => h) (Or.inl ⟨by rfl, ?_⟩) kk ?_; (rotate_left; (intro w hSw; (try dsimp only at hSw); go_simp; try with_reducible rfl)); (try simp only [Act.put, List.setIfInBounds_toArray, List.set_cons_zero, List.set_cons_succ]))
  (refine wpAnyM_take (i := 7) (v := ?_) rfl (by kernel_rfl) (by kernel_rfl) (by kernel_rfl) (by kernel_rfl) (fun _ _ _ h => h) (Or.inl ⟨by rfl, ?_⟩) kk ?_; (rotate_left; (intro w hSw; (try dsimp only at hSw); go_simp; try with_reducible rfl)); (try simp only [Act.put, List.setIfInBounds_toArray, List.set_cons_zero, List.set_cons_succ]))
  (refine wpAnyM_take (i := 8) (v := ?_) rfl (by kernel_rfl) (by kernel_rfl) (by kernel_rfl) (by kernel_rfl) (fun _ _ _ h => h) (Or.inl ⟨by rfl, ?_⟩) kk ?_; (rotate_left; (intro w hSw; (try dsimp only at hSw); go_simp; try with_reducible rfl)); (try simp only [Act.put, List.setIfInBounds_toArray, List.set_cons_zero, List.set_cons_succ]))
  (refine wpAnyM_take (i := 9) (v := ?_) rfl (by kernel_rfl) (by kernel_rfl) (by kernel_rfl) (by kernel_rfl) (fun _ _ _ h => h) (Or.inl ⟨by rfl, ?_⟩) kk ?_; (rotate_left; (intro w hSw; (try dsimp only at hSw); go_simp; try with_reducible rfl)); (try simp only [Act.put, List.setIfInBounds_toArray, List.set_cons_zero, List.set_cons_succ]))
  (refine wpAnyM_take (i := 10) (v := ?_) rfl (by kernel_rfl) (by kernel_rfl) (by kernel_rfl) (by kernel_rfl) (fun _ _ _ h => h) (Or.inl ⟨by rfl, ?_⟩) kk ?_; (rotate_left; (intro w hSw; (try dsimp only at hSw); go_simp; try with_reducible rfl)); (try simp only [Act.put, List.setIfInBounds_toArray, List.set_cons_zero, List.set_cons_succ]))
  (refine wpAnyM_take (i := 11) (v := ?_) rfl (by kernel_rfl) (by kernel_rfl) (by kernel_rfl) (by kernel_rfl) (fun _ _ _ h => h) (Or.inl ⟨by rfl, ?_⟩) kk ?_; (rotate_left; (intro w hSw; (try dsimp only at hSw); go_simp; try with_reducible rfl)); (try simp only [Act.put, List.setIfInBounds_toArray, List.set_cons_zero, List.set_cons_succ]))
  (refine wpAnyM_take (i := 12) (v := ?_) rfl (by kernel_rfl) (by kernel_rfl) (by kernel_rfl) (by kernel_rfl) (fun _ _ _ h => h) (Or.inl ⟨by rfl, ?_⟩) kk ?_; (rotate_left; (intro w hSw; (try dsimp only at hSw); go_simp; try with_reducible rfl)); (try simp only [Act.put, List.setIfInBounds_toArray, List.set_cons_zero, List.set_cons_succ]))
  (refine wpAnyM_take (i := 13) (v := ?_) rfl (by kernel_rfl) (by kernel_rfl) (by kernel_rfl) (by kernel_rfl) (fun _ _ _ h => h) (Or.inl ⟨by rfl, ?_⟩) kk ?_; (rotate_left; (intro w hSw; (try dsimp only at hSw); go_simp; try with_reducible rfl)); (try simp only [Act.put, List.setIfInBounds_toArray, List.set_cons_zero, List.set_cons_succ]))
  (refine wpAnyM_take (i := 14) (v := ?_) rfl (by kernel_rfl) (by kernel_rfl) (by kernel_rfl) (by kernel_rfl) (fun _ _ _ h => h) (Or.inl ⟨by rfl, ?_⟩) kk ?_; (rotate_left; (intro w hSw; (try dsimp only at hSw); go_simp; try with_reducible rfl)); (try simp only [Act.put, List.setIfInBounds_toArray, List.set_cons_zero, List.set_cons_succ]))
  refine wpAnyM_one (i := 15) (by kernel_rfl) rfl (fun K hK => ?_)
  go_simp
  refine (HAd.out _ (HPr.out.below (Below.drew (Below.refl _ w)))).mono ?_
  rintro e w3 ⟨A3, c3, rfl, T3, hb3⟩
  have hb3' : Below w.heap.size w w3 := (Below.drew (Below.refl _ w)).trans hb3
  have cc : ∀ p : Addr, p.block < w.heap.size → w3.cell? p = w.cell? p := fun p hp => hb3'.cell hp
  have HT3 := Lib.hid (show Tab w3 w.heap.size A3 (pn + 1) c3 X from T3)
  go_simp
  refine hK _ _ (fun _ => ⟨(cc _ hbl).trans k8, (cc _ hbl).trans k3, (cc _ hbl).trans k5⟩) ?_
  clear hK K
  refine wpAnyM_rest (by kernel_rfl) ?_
  (refine wpAny_take (i := 16) (v := ?_) rfl (by kernel_rfl) (by kernel_rfl) (by kernel_rfl) (fun _ _ _ h => h) (Or.inl ⟨by rfl, ?_⟩) ?_; (rotate_left; (intro w; go_simp; try with_reducible rfl)))
  (refine wpAny_take (i := 17) (v := ?_) rfl (by kernel_rfl) (by kernel_rfl) (by kernel_rfl) (fun _ _ _ h => h) (Or.inl ⟨by rfl, ?_⟩) ?_; (rotate_left; (intro w; go_simp; try with_reducible rfl)))
  (refine wpAny_take (i := 18) (v := ?_) rfl (by kernel_rfl) (by kernel_rfl) (by kernel_rfl) (fun _ _ _ h => h) (Or.inl ⟨by rfl, ?_⟩) ?_; (rotate_left; (intro w; go_simp; try with_reducible rfl)))
  (refine wpAny_take (i := 19) (v := ?_) rfl (by kernel_rfl) (by kernel_rfl) (by kernel_rfl) (fun _ _ _ h => h) (Or.inl ⟨by rfl, ?_⟩) ?_; (rotate_left; (intro w; go_simp; try with_reducible rfl)))
  (refine wpAny_take (i := 20) (v := ?_) rfl (by kernel_rfl) (by kernel_rfl) (by kernel_rfl) (fun _ _ _ h => h) (Or.inl ⟨by rfl, ?_⟩) ?_; (rotate_left; (intro w; go_simp; try with_reducible rfl)))
  refine wpAny_done (by kernel_rfl) ?_ _
  have m8 := (cc ⟨b, 8, none⟩ hbl).trans k8
  have mf : ∀ o, w3.frozen? ⟨b, o, none⟩ = false := fun o => (World.frozen?_of_block (hb3'.block b hbl)).trans (kf o)
  have R4 := Lib.hid (HR.out.setPeers hb3' HT3.out)
  have K4 := Lib.hid ((Kept.of_below (f := f) hb3').set HFb.out 8 (.slice A3 (pn + 1) c3))
  clear hb3 hb3' cc kk k0 k3 k5 k8 kf T3
  go_simp
  go_wp2_with fail
  go_ret
  exact ⟨rfl, ⟨_, by rw [HX.out]; exact R4.out⟩, K4.out⟩
set_option maxHeartbeats 4000000 in
theorem npeers_ok (b : Nat) (s : NSt) (f : Nat → Prop) (w : World) (h : NRep w b s f) (ok : NOK s) :
    Calls Try.prog 33 #[.pointer (some ⟨b, 0, none⟩)] w fun e w' => ∃ A n c, e = .returned (.slice A n c) ∧ Tab w' w.heap.size A n c s.peers ∧ Below w.heap.size w w' := by
  obtain ⟨A, pn, pc, S, hnd, hpr⟩ := h.node
  have hl := hpr.1
  have h6 := ok.tab.len
  have HC := Lib.hid (copied_ok A pn pc s.peers f w hpr (by omega) (fun k hk => by have := ok.tab.vals k (by omega); omega))
  obtain ⟨_, _, _, _, _, _, _, _, k8, _⟩ := hnd.cells
  clear h ok hnd hpr
  go_enter Try.func33, Try.ntmps33
  go_wp2_with fail
  refine HC.out.mono ?_
  rintro e w1 ⟨A1, c1, xs, rfl, own1, pv1, hb1⟩
  have T1 := Lib.hid (show Tab w1 w.heap.size A1 pn c1 s.peers from ⟨xs, own1, pv1⟩)
  clear own1 pv1
  go_wp2_with fail
  go_ret
  exact ⟨A1, pn, c1, rfl, T1.out, hb1⟩
/-- A node that is new. -/
theorem NRep.new {w : World} {b : Nat} {id : ByteArray} {inc every cap least : Int} (h : NodeAt w b id inc every cap least 0 0 0 (.slice none 0 0) (.slice none 0 0)) : NRep w b ⟨id, inc, every, cap, least, 0, 0, 0, [], []⟩ (fun x => x = b) :=
  ⟨none, 0, 0, .slice none 0 0, h, rfl, PRow.nil _ _ _, World.ownsRow_nil _ _ _ _, fun g hg => (by cases hg), fun x hx => by rw [hx]; exact h.lt⟩
theorem NOK.new {id : ByteArray} {inc every cap least : Int} (hid : IdOK (byts id)) (hi : 0 ≤ inc ∧ inc < 2147483648) (he : 1 ≤ every ∧ every ≤ 16777216) (hc : 1 ≤ cap ∧ cap ≤ 64) (hl : 1 ≤ least ∧ least ≤ 16777216) : NOK ⟨id, inc, every, cap, least, 0, 0, 0, [], []⟩ :=
  ⟨hid, hi, he, hc, hl, by simp, by simp, by simp, ⟨by simp, by simp, by simp⟩, by simp, by simp⟩
end Go.Proofs.Ytpomdnglknbanaa
