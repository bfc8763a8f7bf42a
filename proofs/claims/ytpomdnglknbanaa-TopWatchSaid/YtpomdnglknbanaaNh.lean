/-
  (*Node).Hear.
-/
import Derived.Test.YtpomdnglknbanaaNt
import Derived.Test.YtpomdnglknbanaaMd
set_option linter.unusedSimpArgs false
set_option linter.unusedVariables false
namespace Go.Proofs.Ytpomdnglknbanaa
open Go Go.RowKit

/-- f, and what is new from a up to z. -/
def ext (f : Nat → Prop) (a z : Nat) : Nat → Prop := fun x => f x ∨ (a ≤ x ∧ x < z)
theorem own_elsewhere {w : World} {B e s n b : Nat} {v : Value} {xs : List Value} (h : w.ownsRow B e s v n xs) (hb : v.ownBlock ≠ some b) (o : Nat) (u : Value) : (w.setCell ⟨b, o, none⟩ u).ownsRow B e s v n xs :=
  h.kept (grown_set w b o u) (.inr hb)
theorem NRep.setPeers {w w1 : World} {b n c : Nat} {s : NSt} {f : Nat → Prop} {A : Option Addr} {L : List Peer} (h : NRep w b s f) (hb : Below w.heap.size w w1) (hT : Tab w1 w.heap.size A n c L) :
    NRep (w1.setCell ⟨b, 8, none⟩ (.slice A n c)) b { s with peers := L } (ext f w.heap.size w1.heap.size) := by
  have hz := hb.size
  obtain ⟨A0, n0, c0, S, h1, h2, h3, h4, h5, h6⟩ := h
  have hbl := h6 b h2
  refine ⟨A, n, c, S, (h1.below hb hbl).setPeers _, .inl h2, ?_, own_elsewhere (own_below h4 hb) (fun e => (h5 b e).2 rfl) _ _, fun g hg => ⟨.inl (h5 g hg).1, (h5 g hg).2⟩, fun x hx => ?_⟩
  · refine (hT.row.same ⟨by simp, fun x _ hx => Below.heap_setCell _ _ _ _ (fun e => by have h1 : x = b := e; have := hx.1; omega)⟩).imp fun x hx => ⟨.inr hx, fun e => by have := hx.1; omega, fun e => ?_⟩
    have := h6 x (h5 x e).1
    have := hx.1
    omega
  · simp only [World.size_setCell]
    rcases hx with hx | hx
    · have := h6 x hx; omega
    · exact hx.2
theorem NRep.setDrops {w : World} {b : Nat} {s : NSt} {f : Nat → Prop} (h : NRep w b s f) (x : Int) : NRep (w.setCell ⟨b, 7, none⟩ (.int .i64 x)) b { s with drops := x } f := by
  obtain ⟨A0, n0, c0, S, h1, h2, h3, h4, h5, h6⟩ := h
  exact ⟨A0, n0, c0, S, h1.setDrops _, h2, h3.same ⟨by simp, fun y _ hy => Below.heap_setCell _ _ _ _ (fun e => hy.2.1 e)⟩, own_elsewhere h4 (fun e => (h5 b e).2 rfl) _ _, h5, by simpa using h6⟩
theorem NRep.fb {w : World} {b : Nat} {s : NSt} {f : Nat → Prop} (h : NRep w b s f) : f b := by obtain ⟨_, _, _, _, _, h2, _⟩ := h; exact h2
theorem NRep.lt {w : World} {b : Nat} {s : NSt} {f : Nat → Prop} (h : NRep w b s f) : ∀ x, f x → x < w.heap.size := by obtain ⟨_, _, _, _, _, _, _, _, _, h6⟩ := h; exact h6
theorem NRep.imp {w : World} {b : Nat} {s : NSt} {f g : Nat → Prop} (h : NRep w b s f) (hi : ∀ x, f x → g x) (hg : ∀ x, g x → x < w.heap.size) : NRep w b s g := by
  obtain ⟨A0, n0, c0, S, h1, h2, h3, h4, h5, h6⟩ := h
  exact ⟨A0, n0, c0, S, h1, hi _ h2, h3.imp fun x hx => ⟨hi _ hx.1, hx.2⟩, h4, fun x hx => ⟨hi _ (h5 x hx).1, (h5 x hx).2⟩, hg⟩
theorem NRep.node {w : World} {b : Nat} {s : NSt} {f : Nat → Prop} (h : NRep w b s f) : ∃ A n c S, NodeAt w b s.id s.inc s.every s.cap s.least s.now s.seq s.drops (.slice A n c) S ∧ PRow w A n s.peers f := by
  obtain ⟨A0, n0, c0, S, h1, h2, h3, h4, h5, h6⟩ := h
  exact ⟨A0, n0, c0, S, h1, h3.imp fun x hx => hx.1⟩
theorem Kept.set {f : Nat → Prop} {w w1 : World} (h : Kept f w w1) {b : Nat} (hb : f b) (o : Nat) (u : Value) : Kept f w (w1.setCell ⟨b, o, none⟩ u) :=
  ⟨h.os, h.tape, h.output, by simpa using h.size, fun x hx hfx => (Below.heap_setCell _ _ _ _ (fun e => hfx (by rw [e]; exact hb))).trans (h.block x hx hfx)⟩
theorem tab_sizes {L : List Peer} (h : TabOK L) : ∀ k, k < L.length → (L.getD k default).id.size ≤ 9223372036854775807 := fun k hk => by
  have := (tab_good h k hk).1.id.2.1
  rw [byts_len] at this
  omega
/-- One more dropped. -/
def more (d : Int) : Int := min (d + 1) 1073741824
set_option maxRecDepth 100000 in
set_option maxHeartbeats 8000000 in
theorem nhear_text (b : Nat) (s : NSt) (f : Nat → Prop) (x : ByteArray) (n : Nat) (w : World) (h : NRep w b s f) (ok : NOK s) (h0 : n ≠ 0) (hdec : ∀ w', Calls Try.prog 53 #[.string x] w' fun e w'' => e = .returned (.tuple #[.agg #[.string ⟨#[]⟩, .int .i64 0, .int .i64 0], .int .i64 n]) ∧ Below w'.heap.size w' w'') :
    Calls Try.prog 31 #[.pointer (some ⟨b, 0, none⟩), .string x] w fun e w' => e = .returned (.tuple #[.slice none 0 0, .int .i64 n]) ∧ NRep w' b { s with drops := more s.drops } f ∧ Kept f w w' := by
  have HD := Lib.hid hdec
  have HR := Lib.hid h
  obtain ⟨A, pn, pc, S, hnd, _⟩ := h.node
  have hbl := hnd.lt
  have hfb := h.fb
  have HFb := Lib.hid hfb
  obtain ⟨_, _, _, _, _, k5, _, k7, k8, _⟩ := hnd.cells
  have kf := hnd.frozen
  have dr := ok.drops
  obtain ⟨d, hd⟩ : ∃ d, s.drops = d := ⟨_, rfl⟩
  rw [hd] at k7 dr
  have w1 : IntKind.i64.wrap (d + 1) = d + 1 := IntWalk.i64_in _ (by omega)
  obtain ⟨d1, hd1⟩ : ∃ x, min (d + 1) 1073741824 = x := ⟨_, rfl⟩
  have HM := Lib.hid (show more s.drops = d1 by unfold more; rw [hd, hd1])
  have hn0 : ((n : Int) == 0) = false := by simp; omega
  have hn0' : ¬ (n : Int) = 0 := by omega
  have qa := alloc_cells
  have qf := alloc_frozens
  clear h ok h0 hnd hfb hdec
  go_enter Try.func31, Try.ntmps31
  go_wp2_with fail
  refine (HD.out _).mono ?_
  rintro e w1 ⟨rfl, hb1⟩
  have z1 := hb1.size
  have c1 := Below.cells hb1
  have f1 := Below.frozens hb1
  try simp only [World.size_alloc, World.size_setCell, World.size_drew] at z1 c1 f1
  go_wp2_with fail
  have Bx := Lib.hid (show Below w.heap.size w (w1.alloc (.cells #[.string ⟨#[]⟩, .int .i64 0, .int .i64 0] 42)) from (by repeat (first | (with_reducible exact Below.refl _ _) | ((with_reducible refine Below.alloc ?_ ?_ _); rotate_left; (next => ((try dsimp only); (try simp only [World.size_alloc, World.size_setCell, World.size_drew]); omega))) | ((with_reducible refine Below.setCell ?_ ?_ _); rotate_left; (next => ((try dsimp only); (try simp only [World.size_alloc, World.size_setCell, World.size_drew]); omega))) | (with_reducible refine Below.drew ?_) | ((with_reducible refine Below.trans ?_ (Below.mono hb1 ?_)); rotate_left; (next => ((try dsimp only); (try simp only [World.size_alloc, World.size_setCell, World.size_drew]); omega))))))
  have R2 := Lib.hid ((HR.out.below Bx.out).setDrops d1)
  have K2 := Lib.hid ((Kept.of_below (f := f) Bx.out).set HFb.out 7 (.int .i64 d1))
  go_ret2
  exact ⟨rfl, by rw [HM.out]; exact R2.out, K2.out⟩
set_option maxRecDepth 100000 in
set_option maxHeartbeats 16000000 in
theorem nhear_none (b : Nat) (s : NSt) (f : Nat → Prop) (id : ByteArray) (i q : Nat) (w : World) (h : NRep w b s f) (ok : NOK s) (hbk : BOK (byts id) i q) (hno : has s.peers id = false) :
    Calls Try.prog 31 #[.pointer (some ⟨b, 0, none⟩), .string (mkB (encL (byts id) i q))] w fun e w' => (∃ k : Int, (k != 0) = true ∧ e = .returned (.tuple #[.slice none 0 0, .int .i64 k])) ∧ NRep w' b { s with drops := more s.drops } f ∧ Kept f w w' := by
  have HD := Lib.hid (fun w' => decode_enc id i q w' hbk)
  have HR := Lib.hid h
  obtain ⟨A, pn, pc, S, hnd, hpr⟩ := h.node
  have hbl := hnd.lt
  have hfb := h.fb
  have HFb := Lib.hid hfb
  obtain ⟨_, _, _, _, _, k5, _, k7, k8, _⟩ := hnd.cells
  have kf := hnd.frozen
  have dr := ok.drops
  have pl := hpr.1
  have HPr := Lib.hid hpr
  have HOk := Lib.hid ok
  have HHe := Lib.hid (fun w' (hr : PRow w' A pn s.peers f) => hear_not A pn pc s.peers f id i q s.now w' hr (by have := ok.tab.len; omega) (fun k hk => tab_sizes ok.tab k (by omega)) (by have := hbk.1.2.1; rw [byts_len] at this; omega) (fun hh => by have := hh.2.2.2.2.2.1; rw [hno] at this; cases this))
  obtain ⟨tx, htx⟩ : ∃ t, mkB (encL (byts id) i q) = t := ⟨_, rfl⟩
  rw [htx] at HD
  rw [htx]
  obtain ⟨d, hd⟩ : ∃ d, s.drops = d := ⟨_, rfl⟩
  rw [hd] at k7 dr
  have HDd := Lib.hid hd
  have w1 : IntKind.i64.wrap (d + 1) = d + 1 := IntWalk.i64_in _ (by omega)
  obtain ⟨d1, hd1⟩ : ∃ x, min (d + 1) 1073741824 = x := ⟨_, rfl⟩
  have HM := Lib.hid (show more s.drops = d1 by unfold more; rw [hd, hd1])
  obtain ⟨nw, hnw⟩ : ∃ x, s.now = x := ⟨_, rfl⟩
  rw [hnw] at k5 HHe
  have HNw := Lib.hid hnw
  have qa := alloc_cells
  have qf := alloc_frozens
  have HND := Lib.hid hnd
  clear h ok hnd hfb hbk hpr htx hnw hd hno
  go_enter Try.func31, Try.ntmps31
  go_wp2_with fail
  refine (HD.out _).mono ?_
  rintro e w1 ⟨rfl, hb1⟩
  have z1 := hb1.size
  have c1 := Below.cells hb1
  have f1 := Below.frozens hb1
  try simp only [World.size_alloc, World.size_setCell, World.size_drew] at z1 c1 f1
  go_wp2_with fail
  have Bx := Lib.hid (show Below w.heap.size w (w1.alloc (.cells #[.string id, .int .i64 (i : Int), .int .i64 (q : Int)] 42)) from (by repeat (first | (with_reducible exact Below.refl _ _) | ((with_reducible refine Below.alloc ?_ ?_ _); rotate_left; (next => ((try dsimp only); (try simp only [World.size_alloc, World.size_setCell, World.size_drew]); omega))) | ((with_reducible refine Below.setCell ?_ ?_ _); rotate_left; (next => ((try dsimp only); (try simp only [World.size_alloc, World.size_setCell, World.size_drew]); omega))) | (with_reducible refine Below.drew ?_) | ((with_reducible refine Below.trans ?_ (Below.mono hb1 ?_)); rotate_left; (next => ((try dsimp only); (try simp only [World.size_alloc, World.size_setCell, World.size_drew]); omega))))))
  have m8 : (w1.alloc (.cells #[.string id, .int .i64 (i : Int), .int .i64 (q : Int)] 42)).cell? ⟨b, 8, none⟩ = some (.slice A pn pc) := (Bx.out.cell (p := ⟨b, 8, none⟩) hbl).trans k8
  have m5 : (w1.alloc (.cells #[.string id, .int .i64 (i : Int), .int .i64 (q : Int)] 42)).cell? ⟨b, 5, none⟩ = some (.int .i64 nw) := (Bx.out.cell (p := ⟨b, 5, none⟩) hbl).trans k5
  have b0 : (w1.alloc (.cells #[.string id, .int .i64 (i : Int), .int .i64 (q : Int)] 42)).cell? ⟨w1.heap.size, 0, none⟩ = some (.string id) := World.cell?_alloc_new _ _ _ 0
  have b1 : (w1.alloc (.cells #[.string id, .int .i64 (i : Int), .int .i64 (q : Int)] 42)).cell? ⟨w1.heap.size, 1, none⟩ = some (.int .i64 (i : Int)) := World.cell?_alloc_new _ _ _ 1
  have b2 : (w1.alloc (.cells #[.string id, .int .i64 (i : Int), .int .i64 (q : Int)] 42)).cell? ⟨w1.heap.size, 2, none⟩ = some (.int .i64 (q : Int)) := World.cell?_alloc_new _ _ _ 2
  have szx : w1.heap.size < (w1.alloc (.cells #[.string id, .int .i64 (i : Int), .int .i64 (q : Int)] 42)).heap.size := by simp
  have szy : w.heap.size ≤ (w1.alloc (.cells #[.string id, .int .i64 (i : Int), .int .i64 (q : Int)] 42)).heap.size := Bx.out.size
  have szb : b < (w1.alloc (.cells #[.string id, .int .i64 (i : Int), .int .i64 (q : Int)] 42)).heap.size := by omega
  generalize (w1.alloc (.cells #[.string id, .int .i64 (i : Int), .int .i64 (q : Int)] 42)) = w2 at Bx m8 m5 b0 b1 b2 szx szy szb ⊢
  clear hb1 c1 f1 z1 qa qf k5 k7 k8 kf
  have kk : w2.drew.cell? ⟨b, 8, none⟩ = some (.slice A pn pc) ∧ w2.drew.cell? ⟨b, 5, none⟩ = some (.int .i64 nw) ∧ w2.drew.cell? ⟨w1.heap.size, 0, none⟩ = some (.string id) ∧ w2.drew.cell? ⟨w1.heap.size, 1, none⟩ = some (.int .i64 (i : Int)) ∧ w2.drew.cell? ⟨w1.heap.size, 2, none⟩ = some (.int .i64 (q : Int)) := ⟨m8, m5, b0, b1, b2⟩
  have M2 := Lib.hid kk
  refine wp_region_M (fun w' => w'.cell? ⟨b, 8, none⟩ = some (.slice A pn pc) ∧ w'.cell? ⟨b, 5, none⟩ = some (.int .i64 nw) ∧ w'.cell? ⟨w1.heap.size, 0, none⟩ = some (.string id) ∧ w'.cell? ⟨w1.heap.size, 1, none⟩ = some (.int .i64 (i : Int)) ∧ w'.cell? ⟨w1.heap.size, 2, none⟩ = some (.int .i64 (q : Int))) (fun j => decide (10 ≤ j)) 17 rfl (by kernel_rfl) ?_
  (refine wpAnyM_take (i := 0) (v := ?_) rfl (by kernel_rfl) (by kernel_rfl) (by kernel_rfl) (by kernel_rfl) (fun _ _ _ h => h) (Or.inl ⟨by rfl, ?_⟩) kk ?_; (rotate_left; (intro w hSw; (try dsimp only at hSw); go_simp; try with_reducible rfl)); (try simp only [Act.put, List.setIfInBounds_toArray, List.set_cons_zero, List.set_cons_succ]))
  (refine wpAnyM_take (i := 1) (v := ?_) rfl (by kernel_rfl) (by kernel_rfl) (by kernel_rfl) (by kernel_rfl) (fun _ _ _ h => h) (Or.inl ⟨by rfl, ?_⟩) kk ?_; (rotate_left; (intro w hSw; (try dsimp only at hSw); go_simp; try with_reducible rfl)); (try simp only [Act.put, List.setIfInBounds_toArray, List.set_cons_zero, List.set_cons_succ]))
  (refine wpAnyM_take (i := 2) (v := ?_) rfl (by kernel_rfl) (by kernel_rfl) (by kernel_rfl) (by kernel_rfl) (fun _ _ _ h => h) (Or.inl ⟨by rfl, ?_⟩) kk ?_; (rotate_left; (intro w hSw; (try dsimp only at hSw); go_simp; try with_reducible rfl)); (try simp only [Act.put, List.setIfInBounds_toArray, List.set_cons_zero, List.set_cons_succ]))
  (refine wpAnyM_take (i := 3) (v := ?_) rfl (by kernel_rfl) (by kernel_rfl) (by kernel_rfl) (by kernel_rfl) (fun _ _ _ h => h) (Or.inl ⟨by rfl, ?_⟩) kk ?_; (rotate_left; (intro w hSw; (try dsimp only at hSw); go_simp; try with_reducible rfl)); (try simp only [Act.put, List.setIfInBounds_toArray, List.set_cons_zero, List.set_cons_succ]))
  (refine wpAnyM_take (i := 4) (v := ?_) rfl (by kernel_rfl) (by kernel_rfl) (by kernel_rfl) (by kernel_rfl) (fun _ _ _ h => h) (Or.inl ⟨by rfl, ?_⟩) kk ?_; (rotate_left; (intro w hSw; (try dsimp only at hSw); go_simp; try with_reducible rfl)); (try simp only [Act.put, List.setIfInBounds_toArray, List.set_cons_zero, List.set_cons_succ]))
  (refine wpAnyM_take (i := 5) (v := ?_) rfl (by kernel_rfl) (by kernel_rfl) (by kernel_rfl) (by kernel_rfl) (fun _ _ _ h => h) (Or.inl ⟨by rfl, ?_⟩) kk ?_; (rotate_left; (intro w hSw; (try dsimp only at hSw); go_simp; try with_reducible rfl)); (try simp only [Act.put, List.setIfInBounds_toArray, List.set_cons_zero, List.set_cons_succ]))
  (refine wpAnyM_take (i := 6) (v := ?_) rfl (by kernel_rfl) (by kernel_rfl) (by kernel_rfl) (by kernel_rfl) (fun _ _ _ h => h) (Or.inl ⟨by rfl, ?_⟩) kk ?_; (rotate_left; (intro w hSw; (try dsimp only at hSw); go_simp; try with_reducible rfl)); (try simp only [Act.put, List.setIfInBounds_toArray, List.set_cons_zero, List.set_cons_succ]))
  (refine wpAnyM_take (i := 7) (v := ?_) rfl (by kernel_rfl) (by kernel_rfl) (by kernel_rfl) (by kernel_rfl) (fun _ _ _ h => h) (Or.inl ⟨by rfl, ?_⟩) kk ?_; (rotate_left; (intro w hSw; (try dsimp only at hSw); go_simp; try with_reducible rfl)); (try simp only [Act.put, List.setIfInBounds_toArray, List.set_cons_zero, List.set_cons_succ]))
  (refine wpAnyM_take (i := 8) (v := ?_) rfl (by kernel_rfl) (by kernel_rfl) (by kernel_rfl) (by kernel_rfl) (fun _ _ _ h => h) (Or.inl ⟨by rfl, ?_⟩) kk ?_; (rotate_left; (intro w hSw; (try dsimp only at hSw); go_simp; try with_reducible rfl)); (try simp only [Act.put, List.setIfInBounds_toArray, List.set_cons_zero, List.set_cons_succ]))
  refine wpAnyM_one (i := 9) (by kernel_rfl) rfl (fun K hK => ?_)
  go_simp
  refine (HHe.out _ ((HPr.out.below Bx.out).below (Below.drew (Below.refl _ w2)))).mono ?_
  rintro e w3 ⟨⟨k, hk, rfl⟩, hb3⟩
  have hb3' : Below w2.heap.size w2 w3 := (Below.drew (Below.refl _ w2)).trans hb3
  have cc : ∀ p : Addr, p.block < w2.heap.size → w3.cell? p = w2.cell? p := fun p hp => hb3'.cell hp
  go_simp
  refine hK _ _ (fun _ => ⟨(cc _ szb).trans m8, (cc _ szb).trans m5, (cc _ szx).trans b0, (cc _ szx).trans b1, (cc _ szx).trans b2⟩) ?_
  clear hK K
  refine wpAnyM_rest (by kernel_rfl) ?_
  (refine wpAny_take (i := 10) (v := ?_) rfl (by kernel_rfl) (by kernel_rfl) (by kernel_rfl) (fun _ _ _ h => h) (Or.inl ⟨by rfl, ?_⟩) ?_; (rotate_left; (intro w; go_simp; try with_reducible rfl)))
  (refine wpAny_take (i := 11) (v := ?_) rfl (by kernel_rfl) (by kernel_rfl) (by kernel_rfl) (fun _ _ _ h => h) (Or.inl ⟨by rfl, ?_⟩) ?_; (rotate_left; (intro w; go_simp; try with_reducible rfl)))
  (refine wpAny_take (i := 12) (v := ?_) rfl (by kernel_rfl) (by kernel_rfl) (by kernel_rfl) (fun _ _ _ h => h) (Or.inl ⟨by rfl, ?_⟩) ?_; (rotate_left; (intro w; go_simp; try with_reducible rfl)))
  (refine wpAny_take (i := 13) (v := ?_) rfl (by kernel_rfl) (by kernel_rfl) (by kernel_rfl) (fun _ _ _ h => h) (Or.inl ⟨by rfl, ?_⟩) ?_; (rotate_left; (intro w; go_simp; try with_reducible rfl)))
  (refine wpAny_take (i := 14) (v := ?_) rfl (by kernel_rfl) (by kernel_rfl) (by kernel_rfl) (fun _ _ _ h => h) (Or.inl ⟨by rfl, ?_⟩) ?_; (rotate_left; (intro w; go_simp; try with_reducible rfl)))
  (refine wpAny_take (i := 15) (v := ?_) rfl (by kernel_rfl) (by kernel_rfl) (by kernel_rfl) (fun _ _ _ h => h) (Or.inl ⟨by rfl, ?_⟩) ?_; (rotate_left; (intro w; go_simp; try with_reducible rfl)))
  (refine wpAny_take (i := 16) (v := ?_) rfl (by kernel_rfl) (by kernel_rfl) (by kernel_rfl) (fun _ _ _ h => h) (Or.inl ⟨by rfl, ?_⟩) ?_; (rotate_left; (intro w; go_simp; try with_reducible rfl)))
  refine wpAny_done (by kernel_rfl) ?_ _
  have B3 := Lib.hid (Bx.out.trans (hb3'.mono szy))
  have R3 := HR.out.below B3.out
  obtain ⟨_, _, _, _, hnd3, _⟩ := R3.node
  have k7 : w3.cell? ⟨b, 7, none⟩ = some (.int .i64 d) := by
    obtain ⟨_, _, _, _, _, _, _, k7, _, _⟩ := HND.out.cells
    have := (B3.out.cell (p := ⟨b, 7, none⟩) hbl).trans k7
    rw [this, HDd.out]
  have kf := hnd3.frozen
  have R4 := Lib.hid (R3.setDrops d1)
  have K4 := Lib.hid ((Kept.of_below (f := f) B3.out).set HFb.out 7 (.int .i64 d1))
  clear hb3 hb3' cc kk m8 m5 b0 b1 b2 R3 hnd3
  go_simp
  go_wp2_with fail
  go_ret2
  exact ⟨⟨k, hk, rfl⟩, by rw [HM.out]; exact R4.out, K4.out⟩
theorem NOK.hear {s : NSt} {id : ByteArray} {i q : Int} (ok : NOK s) (h : HearOK s.peers id i q s.now) : NOK { s with peers := hearS s.peers id i q s.now } := by
  refine ⟨ok.id, ok.inc, ok.every, ok.cap, ok.least, ok.now, ok.seq, ok.drops, h.tab, fun p hp => ?_, ok.subs⟩
  have hp' : p ∈ hearS s.peers id i q s.now := hp
  unfold hearS at hp'
  rcases List.mem_or_eq_of_mem_set hp' with hp' | rfl
  · exact ok.wins p hp'
  · have hw := ok.at (has_lt h.2.2.2.2.2.1)
    refine ⟨?_, heardP_last hw.2.2⟩
    unfold heardP
    split
    · simp
    · exact hw.2.1
theorem NOK.hears {s : NSt} {id : ByteArray} {i q : Nat} (ok : NOK s) (hbk : BOK (byts id) i q) (hy : has s.peers id = true) : HearOK s.peers id i q s.now :=
  ⟨ok.tab, hbk.1, ⟨by omega, by have := hbk.2.1; omega⟩, ⟨by have := hbk.2.2.1; omega, by have := hbk.2.2.2; omega⟩, ok.now, hy, (ok.at (has_lt hy)).2.2⟩
set_option maxRecDepth 100000 in
set_option maxHeartbeats 16000000 in
theorem nhear_old (b : Nat) (s : NSt) (f : Nat → Prop) (id : ByteArray) (i q : Nat) (w : World) (h : NRep w b s f) (ok : NOK s) (hbk : BOK (byts id) i q) (hy : has s.peers id = true) (hnw2 : newer (s.peers.getD (pos s.peers id) default) i q = false) :
    Calls Try.prog 31 #[.pointer (some ⟨b, 0, none⟩), .string (mkB (encL (byts id) i q))] w fun e w' => e = .returned (.tuple #[.slice none 0 0, .int .i64 5]) ∧ (∃ m, NRep w' b { s with peers := hearS s.peers id i q s.now, drops := more s.drops } (ext f w.heap.size m)) ∧ Kept f w w' := by
  have HD := Lib.hid (fun w' => decode_enc id i q w' hbk)
  have HR := Lib.hid h
  obtain ⟨A, pn, pc, S, hnd, hpr⟩ := h.node
  have hbl := hnd.lt
  have hfb := h.fb
  have HFb := Lib.hid hfb
  obtain ⟨_, _, _, _, _, k5, _, k7, k8, _⟩ := hnd.cells
  have kf := hnd.frozen
  have dr := ok.drops
  have pl := hpr.1
  have HPr := Lib.hid hpr
  have HOk := Lib.hid ok
  have HHe := Lib.hid (fun w' (hr : PRow w' A pn s.peers f) => hear_yes A pn pc s.peers f id i q s.now w' hr (ok.hears hbk hy))
  rw [hnw2] at HHe
  have HNk := Lib.hid (ok.hear (ok.hears hbk hy))
  obtain ⟨tx, htx⟩ : ∃ t, mkB (encL (byts id) i q) = t := ⟨_, rfl⟩
  rw [htx] at HD
  rw [htx]
  obtain ⟨d, hd⟩ : ∃ d, s.drops = d := ⟨_, rfl⟩
  rw [hd] at k7 dr
  have HDd := Lib.hid hd
  have w1 : IntKind.i64.wrap (d + 1) = d + 1 := IntWalk.i64_in _ (by omega)
  obtain ⟨d1, hd1⟩ : ∃ x, min (d + 1) 1073741824 = x := ⟨_, rfl⟩
  have HM := Lib.hid (show more s.drops = d1 by unfold more; rw [hd, hd1])
  obtain ⟨nw, hnw⟩ : ∃ x, s.now = x := ⟨_, rfl⟩
  rw [hnw] at k5 HHe
  have HNw := Lib.hid hnw
  have qa := alloc_cells
  have qf := alloc_frozens
  have HND := Lib.hid hnd
  obtain ⟨X, hX⟩ : ∃ X, hearS s.peers id i q nw = X := ⟨_, rfl⟩
  rw [hX] at HHe
  have HX := Lib.hid (show hearS s.peers id i q s.now = X by rw [hnw, hX])
  rw [HX.out] at HNk
  clear h ok hnd hfb hbk hpr htx hnw hd hy hnw2 hX
  go_enter Try.func31, Try.ntmps31
  go_wp2_with fail
  refine (HD.out _).mono ?_
  rintro e w1 ⟨rfl, hb1⟩
  have z1 := hb1.size
  have c1 := Below.cells hb1
  have f1 := Below.frozens hb1
  try simp only [World.size_alloc, World.size_setCell, World.size_drew] at z1 c1 f1
  go_wp2_with fail
  have Bx := Lib.hid (show Below w.heap.size w (w1.alloc (.cells #[.string id, .int .i64 (i : Int), .int .i64 (q : Int)] 42)) from (by repeat (first | (with_reducible exact Below.refl _ _) | ((with_reducible refine Below.alloc ?_ ?_ _); rotate_left; (next => ((try dsimp only); (try simp only [World.size_alloc, World.size_setCell, World.size_drew]); omega))) | ((with_reducible refine Below.setCell ?_ ?_ _); rotate_left; (next => ((try dsimp only); (try simp only [World.size_alloc, World.size_setCell, World.size_drew]); omega))) | (with_reducible refine Below.drew ?_) | ((with_reducible refine Below.trans ?_ (Below.mono hb1 ?_)); rotate_left; (next => ((try dsimp only); (try simp only [World.size_alloc, World.size_setCell, World.size_drew]); omega))))))
  have m8 : (w1.alloc (.cells #[.string id, .int .i64 (i : Int), .int .i64 (q : Int)] 42)).cell? ⟨b, 8, none⟩ = some (.slice A pn pc) := (Bx.out.cell (p := ⟨b, 8, none⟩) hbl).trans k8
  have m5 : (w1.alloc (.cells #[.string id, .int .i64 (i : Int), .int .i64 (q : Int)] 42)).cell? ⟨b, 5, none⟩ = some (.int .i64 nw) := (Bx.out.cell (p := ⟨b, 5, none⟩) hbl).trans k5
  have b0 : (w1.alloc (.cells #[.string id, .int .i64 (i : Int), .int .i64 (q : Int)] 42)).cell? ⟨w1.heap.size, 0, none⟩ = some (.string id) := World.cell?_alloc_new _ _ _ 0
  have b1 : (w1.alloc (.cells #[.string id, .int .i64 (i : Int), .int .i64 (q : Int)] 42)).cell? ⟨w1.heap.size, 1, none⟩ = some (.int .i64 (i : Int)) := World.cell?_alloc_new _ _ _ 1
  have b2 : (w1.alloc (.cells #[.string id, .int .i64 (i : Int), .int .i64 (q : Int)] 42)).cell? ⟨w1.heap.size, 2, none⟩ = some (.int .i64 (q : Int)) := World.cell?_alloc_new _ _ _ 2
  have szx : w1.heap.size < (w1.alloc (.cells #[.string id, .int .i64 (i : Int), .int .i64 (q : Int)] 42)).heap.size := by simp
  have szy : w.heap.size ≤ (w1.alloc (.cells #[.string id, .int .i64 (i : Int), .int .i64 (q : Int)] 42)).heap.size := Bx.out.size
  have szb : b < (w1.alloc (.cells #[.string id, .int .i64 (i : Int), .int .i64 (q : Int)] 42)).heap.size := by omega
  generalize (w1.alloc (.cells #[.string id, .int .i64 (i : Int), .int .i64 (q : Int)] 42)) = w2 at Bx m8 m5 b0 b1 b2 szx szy szb ⊢
  clear hb1 c1 f1 z1 qa qf k5 k7 k8 kf
  have kk : w2.drew.cell? ⟨b, 8, none⟩ = some (.slice A pn pc) ∧ w2.drew.cell? ⟨b, 5, none⟩ = some (.int .i64 nw) ∧ w2.drew.cell? ⟨w1.heap.size, 0, none⟩ = some (.string id) ∧ w2.drew.cell? ⟨w1.heap.size, 1, none⟩ = some (.int .i64 (i : Int)) ∧ w2.drew.cell? ⟨w1.heap.size, 2, none⟩ = some (.int .i64 (q : Int)) := ⟨m8, m5, b0, b1, b2⟩
  have M2 := Lib.hid kk
  refine wp_region_M (fun w' => w'.cell? ⟨b, 8, none⟩ = some (.slice A pn pc) ∧ w'.cell? ⟨b, 5, none⟩ = some (.int .i64 nw) ∧ w'.cell? ⟨w1.heap.size, 0, none⟩ = some (.string id) ∧ w'.cell? ⟨w1.heap.size, 1, none⟩ = some (.int .i64 (i : Int)) ∧ w'.cell? ⟨w1.heap.size, 2, none⟩ = some (.int .i64 (q : Int))) (fun j => decide (10 ≤ j)) 17 rfl (by kernel_rfl) ?_
  (refine wpAnyM_take (i := 0) (v := ?_) rfl (by kernel_rfl) (by kernel_rfl) (by kernel_rfl) (by kernel_rfl) (fun _ _ _ h => h) (Or.inl ⟨by rfl, ?_⟩) kk ?_; (rotate_left; (intro w hSw; (try dsimp only at hSw); go_simp; try with_reducible rfl)); (try simp only [Act.put, List.setIfInBounds_toArray, List.set_cons_zero, List.set_cons_succ]))
  (refine wpAnyM_take (i := 1) (v := ?_) rfl (by kernel_rfl) (by kernel_rfl) (by kernel_rfl) (by kernel_rfl) (fun _ _ _ h => h) (Or.inl ⟨by rfl, ?_⟩) kk ?_; (rotate_left; (intro w hSw; (try dsimp only at hSw); go_simp; try with_reducible rfl)); (try simp only [Act.put, List.setIfInBounds_toArray, List.set_cons_zero, List.set_cons_succ]))
  (refine wpAnyM_take (i := 2) (v := ?_) rfl (by kernel_rfl) (by kernel_rfl) (by kernel_rfl) (by kernel_rfl) (fun _ _ _ h => h) (Or.inl ⟨by rfl, ?_⟩) kk ?_; (rotate_left; (intro w hSw; (try dsimp only at hSw); go_simp; try with_reducible rfl)); (try simp only [Act.put, List.setIfInBounds_toArray, List.set_cons_zero, List.set_cons_succ]))
  (refine wpAnyM_take (i := 3) (v := ?_) rfl (by kernel_rfl) (by kernel_rfl) (by kernel_rfl) (by kernel_rfl) (fun _ _ _ h => h) (Or.inl ⟨by rfl, ?_⟩) kk ?_; (rotate_left; (intro w hSw; (try dsimp only at hSw); go_simp; try with_reducible rfl)); (try simp only [Act.put, List.setIfInBounds_toArray, List.set_cons_zero, List.set_cons_succ]))
  (refine wpAnyM_take (i := 4) (v := ?_) rfl (by kernel_rfl) (by kernel_rfl) (by kernel_rfl) (by kernel_rfl) (fun _ _ _ h => h) (Or.inl ⟨by rfl, ?_⟩) kk ?_; (rotate_left; (intro w hSw; (try dsimp only at hSw); go_simp; try with_reducible rfl)); (try simp only [Act.put, List.setIfInBounds_toArray, List.set_cons_zero, List.set_cons_succ]))
  (refine wpAnyM_take (i := 5) (v := ?_) rfl (by kernel_rfl) (by kernel_rfl) (by kernel_rfl) (by kernel_rfl) (fun _ _ _ h => h) (Or.inl ⟨by rfl, ?_⟩) kk ?_; (rotate_left; (intro w hSw; (try dsimp only at hSw); go_simp; try with_reducible rfl)); (try simp only [Act.put, List.setIfInBounds_toArray, List.set_cons_zero, List.set_cons_succ]))
  (refine wpAnyM_take (i := 6) (v := ?_) rfl (by kernel_rfl) (by kernel_rfl) (by kernel_rfl) (by kernel_rfl) (fun _ _ _ h => h) (Or.inl ⟨by rfl, ?_⟩) kk ?_; (rotate_left; (intro w hSw; (try dsimp only at hSw); go_simp; try with_reducible rfl)); (try simp only [Act.put, List.setIfInBounds_toArray, List.set_cons_zero, List.set_cons_succ]))
  (refine wpAnyM_take (i := 7) (v := ?_) rfl (by kernel_rfl) (by kernel_rfl) (by kernel_rfl) (by kernel_rfl) (fun _ _ _ h => h) (Or.inl ⟨by rfl, ?_⟩) kk ?_; (rotate_left; (intro w hSw; (try dsimp only at hSw); go_simp; try with_reducible rfl)); (try simp only [Act.put, List.setIfInBounds_toArray, List.set_cons_zero, List.set_cons_succ]))
  (refine wpAnyM_take (i := 8) (v := ?_) rfl (by kernel_rfl) (by kernel_rfl) (by kernel_rfl) (by kernel_rfl) (fun _ _ _ h => h) (Or.inl ⟨by rfl, ?_⟩) kk ?_; (rotate_left; (intro w hSw; (try dsimp only at hSw); go_simp; try with_reducible rfl)); (try simp only [Act.put, List.setIfInBounds_toArray, List.set_cons_zero, List.set_cons_succ]))
  refine wpAnyM_one (i := 9) (by kernel_rfl) rfl (fun K hK => ?_)
  go_simp
  refine (HHe.out _ ((HPr.out.below Bx.out).below (Below.drew (Below.refl _ w2)))).mono ?_
  rintro e w3 ⟨A3, c3, rfl, T3, hb3⟩
  have hb3' : Below w2.heap.size w2 w3 := (Below.drew (Below.refl _ w2)).trans hb3
  have cc : ∀ p : Addr, p.block < w2.heap.size → w3.cell? p = w2.cell? p := fun p hp => hb3'.cell hp
  have HT3 := Lib.hid (T3.mono (show w.heap.size ≤ w2.heap.size from szy))
  go_simp
  refine hK _ _ (fun _ => ⟨(cc _ szb).trans m8, (cc _ szb).trans m5, (cc _ szx).trans b0, (cc _ szx).trans b1, (cc _ szx).trans b2⟩) ?_
  clear hK K
  refine wpAnyM_rest (by kernel_rfl) ?_
  (refine wpAny_take (i := 10) (v := ?_) rfl (by kernel_rfl) (by kernel_rfl) (by kernel_rfl) (fun _ _ _ h => h) (Or.inl ⟨by rfl, ?_⟩) ?_; (rotate_left; (intro w; go_simp; try with_reducible rfl)))
  (refine wpAny_take (i := 11) (v := ?_) rfl (by kernel_rfl) (by kernel_rfl) (by kernel_rfl) (fun _ _ _ h => h) (Or.inl ⟨by rfl, ?_⟩) ?_; (rotate_left; (intro w; go_simp; try with_reducible rfl)))
  (refine wpAny_take (i := 12) (v := ?_) rfl (by kernel_rfl) (by kernel_rfl) (by kernel_rfl) (fun _ _ _ h => h) (Or.inl ⟨by rfl, ?_⟩) ?_; (rotate_left; (intro w; go_simp; try with_reducible rfl)))
  (refine wpAny_take (i := 13) (v := ?_) rfl (by kernel_rfl) (by kernel_rfl) (by kernel_rfl) (fun _ _ _ h => h) (Or.inl ⟨by rfl, ?_⟩) ?_; (rotate_left; (intro w; go_simp; try with_reducible rfl)))
  (refine wpAny_take (i := 14) (v := ?_) rfl (by kernel_rfl) (by kernel_rfl) (by kernel_rfl) (fun _ _ _ h => h) (Or.inl ⟨by rfl, ?_⟩) ?_; (rotate_left; (intro w; go_simp; try with_reducible rfl)))
  (refine wpAny_take (i := 15) (v := ?_) rfl (by kernel_rfl) (by kernel_rfl) (by kernel_rfl) (fun _ _ _ h => h) (Or.inl ⟨by rfl, ?_⟩) ?_; (rotate_left; (intro w; go_simp; try with_reducible rfl)))
  (refine wpAny_take (i := 16) (v := ?_) rfl (by kernel_rfl) (by kernel_rfl) (by kernel_rfl) (fun _ _ _ h => h) (Or.inl ⟨by rfl, ?_⟩) ?_; (rotate_left; (intro w; go_simp; try with_reducible rfl)))
  refine wpAny_done (by kernel_rfl) ?_ _
  have B3 := Lib.hid (Bx.out.trans (hb3'.mono szy))
  have R3 := HR.out.below B3.out
  obtain ⟨_, _, _, _, hnd3, _⟩ := R3.node
  have k7 : w3.cell? ⟨b, 7, none⟩ = some (.int .i64 d) := by
    obtain ⟨_, _, _, _, _, _, _, k7, _, _⟩ := HND.out.cells
    have := (B3.out.cell (p := ⟨b, 7, none⟩) hbl).trans k7
    rw [this, HDd.out]
  have k8 : w3.cell? ⟨b, 8, none⟩ = some (.slice A pn pc) := (cc ⟨b, 8, none⟩ szb).trans m8
  have kf := hnd3.frozen
  have z3 : w.heap.size ≤ w3.heap.size := B3.out.size
  have R4 := Lib.hid (HR.out.setPeers B3.out HT3.out)
  have K4 := Lib.hid ((Kept.of_below (f := f) B3.out).set HFb.out 8 (.slice A3 pn c3))
  clear hb3 hb3' cc kk m8 m5 b0 b1 b2 R3 hnd3 T3
  go_simp
  have R5 := Lib.hid (R4.out.setDrops d1)
  have K5 := Lib.hid (K4.out.set HFb.out 7 (.int .i64 d1))
  go_wp2_with fail
  go_ret2
  exact ⟨rfl, ⟨_, by rw [HM.out, HX.out]; exact R5.out⟩, K5.out⟩
set_option maxRecDepth 100000 in
set_option maxHeartbeats 16000000 in
theorem nhear_new (b : Nat) (s : NSt) (f : Nat → Prop) (id : ByteArray) (i q : Nat) (w : World) (h : NRep w b s f) (ok : NOK s) (hbk : BOK (byts id) i q) (hy : has s.peers id = true) (hnw2 : newer (s.peers.getD (pos s.peers id) default) i q = true) :
    Calls Try.prog 31 #[.pointer (some ⟨b, 0, none⟩), .string (mkB (encL (byts id) i q))] w fun e w' => ∃ t A' c' m, t = { s with peers := hearS s.peers id i q s.now } ∧ e = .returned (.tuple #[.slice A' (toldN t).length c', .int .i64 0]) ∧ w'.ownsRow m 92 3 (.slice A' (toldN t).length c') (toldN t).length (notesC (toldN t)) ∧ NRep w' b { t with subs := toldS t } (ext f w.heap.size m) ∧ w.heap.size ≤ m ∧ m ≤ w'.heap.size ∧ Kept f w w' := by
  have HD := Lib.hid (fun w' => decode_enc id i q w' hbk)
  have HR := Lib.hid h
  obtain ⟨A, pn, pc, S, hnd, hpr⟩ := h.node
  have hbl := hnd.lt
  have hfb := h.fb
  have HFb := Lib.hid hfb
  obtain ⟨_, _, _, _, _, k5, _, k7, k8, _⟩ := hnd.cells
  have kf := hnd.frozen
  have dr := ok.drops
  have pl := hpr.1
  have HPr := Lib.hid hpr
  have HOk := Lib.hid ok
  have HHe := Lib.hid (fun w' (hr : PRow w' A pn s.peers f) => hear_yes A pn pc s.peers f id i q s.now w' hr (ok.hears hbk hy))
  rw [hnw2] at HHe
  have HNk := Lib.hid (ok.hear (ok.hears hbk hy))
  obtain ⟨tx, htx⟩ : ∃ t, mkB (encL (byts id) i q) = t := ⟨_, rfl⟩
  rw [htx] at HD
  rw [htx]
  obtain ⟨d, hd⟩ : ∃ d, s.drops = d := ⟨_, rfl⟩
  rw [hd] at k7 dr
  have HDd := Lib.hid hd
  have w1 : IntKind.i64.wrap (d + 1) = d + 1 := IntWalk.i64_in _ (by omega)
  obtain ⟨d1, hd1⟩ : ∃ x, min (d + 1) 1073741824 = x := ⟨_, rfl⟩
  have HM := Lib.hid (show more s.drops = d1 by unfold more; rw [hd, hd1])
  obtain ⟨nw, hnw⟩ : ∃ x, s.now = x := ⟨_, rfl⟩
  rw [hnw] at k5 HHe
  have HNw := Lib.hid hnw
  have qa := alloc_cells
  have qf := alloc_frozens
  have HND := Lib.hid hnd
  obtain ⟨X, hX⟩ : ∃ X, hearS s.peers id i q nw = X := ⟨_, rfl⟩
  rw [hX] at HHe
  have HX := Lib.hid (show hearS s.peers id i q s.now = X by rw [hnw, hX])
  rw [HX.out] at HNk
  clear h ok hnd hfb hbk hpr htx hnw hd hy hnw2 hX
  go_enter Try.func31, Try.ntmps31
  go_wp2_with fail
  refine (HD.out _).mono ?_
  rintro e w1 ⟨rfl, hb1⟩
  have z1 := hb1.size
  have c1 := Below.cells hb1
  have f1 := Below.frozens hb1
  try simp only [World.size_alloc, World.size_setCell, World.size_drew] at z1 c1 f1
  go_wp2_with fail
  have Bx := Lib.hid (show Below w.heap.size w (w1.alloc (.cells #[.string id, .int .i64 (i : Int), .int .i64 (q : Int)] 42)) from (by repeat (first | (with_reducible exact Below.refl _ _) | ((with_reducible refine Below.alloc ?_ ?_ _); rotate_left; (next => ((try dsimp only); (try simp only [World.size_alloc, World.size_setCell, World.size_drew]); omega))) | ((with_reducible refine Below.setCell ?_ ?_ _); rotate_left; (next => ((try dsimp only); (try simp only [World.size_alloc, World.size_setCell, World.size_drew]); omega))) | (with_reducible refine Below.drew ?_) | ((with_reducible refine Below.trans ?_ (Below.mono hb1 ?_)); rotate_left; (next => ((try dsimp only); (try simp only [World.size_alloc, World.size_setCell, World.size_drew]); omega))))))
  have m8 : (w1.alloc (.cells #[.string id, .int .i64 (i : Int), .int .i64 (q : Int)] 42)).cell? ⟨b, 8, none⟩ = some (.slice A pn pc) := (Bx.out.cell (p := ⟨b, 8, none⟩) hbl).trans k8
  have m5 : (w1.alloc (.cells #[.string id, .int .i64 (i : Int), .int .i64 (q : Int)] 42)).cell? ⟨b, 5, none⟩ = some (.int .i64 nw) := (Bx.out.cell (p := ⟨b, 5, none⟩) hbl).trans k5
  have b0 : (w1.alloc (.cells #[.string id, .int .i64 (i : Int), .int .i64 (q : Int)] 42)).cell? ⟨w1.heap.size, 0, none⟩ = some (.string id) := World.cell?_alloc_new _ _ _ 0
  have b1 : (w1.alloc (.cells #[.string id, .int .i64 (i : Int), .int .i64 (q : Int)] 42)).cell? ⟨w1.heap.size, 1, none⟩ = some (.int .i64 (i : Int)) := World.cell?_alloc_new _ _ _ 1
  have b2 : (w1.alloc (.cells #[.string id, .int .i64 (i : Int), .int .i64 (q : Int)] 42)).cell? ⟨w1.heap.size, 2, none⟩ = some (.int .i64 (q : Int)) := World.cell?_alloc_new _ _ _ 2
  have szx : w1.heap.size < (w1.alloc (.cells #[.string id, .int .i64 (i : Int), .int .i64 (q : Int)] 42)).heap.size := by simp
  have szy : w.heap.size ≤ (w1.alloc (.cells #[.string id, .int .i64 (i : Int), .int .i64 (q : Int)] 42)).heap.size := Bx.out.size
  have szb : b < (w1.alloc (.cells #[.string id, .int .i64 (i : Int), .int .i64 (q : Int)] 42)).heap.size := by omega
  generalize (w1.alloc (.cells #[.string id, .int .i64 (i : Int), .int .i64 (q : Int)] 42)) = w2 at Bx m8 m5 b0 b1 b2 szx szy szb ⊢
  clear hb1 c1 f1 z1 qa qf k5 k7 k8 kf
  have kk : w2.drew.cell? ⟨b, 8, none⟩ = some (.slice A pn pc) ∧ w2.drew.cell? ⟨b, 5, none⟩ = some (.int .i64 nw) ∧ w2.drew.cell? ⟨w1.heap.size, 0, none⟩ = some (.string id) ∧ w2.drew.cell? ⟨w1.heap.size, 1, none⟩ = some (.int .i64 (i : Int)) ∧ w2.drew.cell? ⟨w1.heap.size, 2, none⟩ = some (.int .i64 (q : Int)) := ⟨m8, m5, b0, b1, b2⟩
  have M2 := Lib.hid kk
  refine wp_region_M (fun w' => w'.cell? ⟨b, 8, none⟩ = some (.slice A pn pc) ∧ w'.cell? ⟨b, 5, none⟩ = some (.int .i64 nw) ∧ w'.cell? ⟨w1.heap.size, 0, none⟩ = some (.string id) ∧ w'.cell? ⟨w1.heap.size, 1, none⟩ = some (.int .i64 (i : Int)) ∧ w'.cell? ⟨w1.heap.size, 2, none⟩ = some (.int .i64 (q : Int))) (fun j => decide (10 ≤ j)) 17 rfl (by kernel_rfl) ?_
  (refine wpAnyM_take (i := 0) (v := ?_) rfl (by kernel_rfl) (by kernel_rfl) (by kernel_rfl) (by kernel_rfl) (fun _ _ _ h => h) (Or.inl ⟨by rfl, ?_⟩) kk ?_; (rotate_left; (intro w hSw; (try dsimp only at hSw); go_simp; try with_reducible rfl)); (try simp only [Act.put, List.setIfInBounds_toArray, List.set_cons_zero, List.set_cons_succ]))
  (refine wpAnyM_take (i := 1) (v := ?_) rfl (by kernel_rfl) (by kernel_rfl) (by kernel_rfl) (by kernel_rfl) (fun _ _ _ h => h) (Or.inl ⟨by rfl, ?_⟩) kk ?_; (rotate_left; (intro w hSw; (try dsimp only at hSw); go_simp; try with_reducible rfl)); (try simp only [Act.put, List.setIfInBounds_toArray, List.set_cons_zero, List.set_cons_succ]))
  (refine wpAnyM_take (i := 2) (v := ?_) rfl (by kernel_rfl) (by kernel_rfl) (by kernel_rfl) (by kernel_rfl) (fun _ _ _ h => h) (Or.inl ⟨by rfl, ?_⟩) kk ?_; (rotate_left; (intro w hSw; (try dsimp only at hSw); go_simp; try with_reducible rfl)); (try simp only [Act.put, List.setIfInBounds_toArray, List.set_cons_zero, List.set_cons_succ]))
  (refine wpAnyM_take (i := 3) (v := ?_) rfl (by kernel_rfl) (by kernel_rfl) (by kernel_rfl) (by kernel_rfl) (fun _ _ _ h => h) (Or.inl ⟨by rfl, ?_⟩) kk ?_; (rotate_left; (intro w hSw; (try dsimp only at hSw); go_simp; try with_reducible rfl)); (try simp only [Act.put, List.setIfInBounds_toArray, List.set_cons_zero, List.set_cons_succ]))
  (refine wpAnyM_take (i := 4) (v := ?_) rfl (by kernel_rfl) (by kernel_rfl) (by kernel_rfl) (by kernel_rfl) (fun _ _ _ h => h) (Or.inl ⟨by rfl, ?_⟩) kk ?_; (rotate_left; (intro w hSw; (try dsimp only at hSw); go_simp; try with_reducible rfl)); (try simp only [Act.put, List.setIfInBounds_toArray, List.set_cons_zero, List.set_cons_succ]))
  (refine wpAnyM_take (i := 5) (v := ?_) rfl (by kernel_rfl) (by kernel_rfl) (by kernel_rfl) (by kernel_rfl) (fun _ _ _ h => h) (Or.inl ⟨by rfl, ?_⟩) kk ?_; (rotate_left; (intro w hSw; (try dsimp only at hSw); go_simp; try with_reducible rfl)); (try simp only [Act.put, List.setIfInBounds_toArray, List.set_cons_zero, List.set_cons_succ]))
  (refine wpAnyM_take (i := 6) (v := ?_) rfl (by kernel_rfl) (by kernel_rfl) (by kernel_rfl) (by kernel_rfl) (fun _ _ _ h => h) (Or.inl ⟨by rfl, ?_⟩) kk ?_; (rotate_left; (intro w hSw; (try dsimp only at hSw); go_simp; try with_reducible rfl)); (try simp only [Act.put, List.setIfInBounds_toArray, List.set_cons_zero, List.set_cons_succ]))
  (refine wpAnyM_take (i := 7) (v := ?_) rfl (by kernel_rfl) (by kernel_rfl) (by kernel_rfl) (by kernel_rfl) (fun _ _ _ h => h) (Or.inl ⟨by rfl, ?_⟩) kk ?_; (rotate_left; (intro w hSw; (try dsimp only at hSw); go_simp; try with_reducible rfl)); (try simp only [Act.put, List.setIfInBounds_toArray, List.set_cons_zero, List.set_cons_succ]))
  (refine wpAnyM_take (i := 8) (v := ?_) rfl (by kernel_rfl) (by kernel_rfl) (by kernel_rfl) (by kernel_rfl) (fun _ _ _ h => h) (Or.inl ⟨by rfl, ?_⟩) kk ?_; (rotate_left; (intro w hSw; (try dsimp only at hSw); go_simp; try with_reducible rfl)); (try simp only [Act.put, List.setIfInBounds_toArray, List.set_cons_zero, List.set_cons_succ]))
  refine wpAnyM_one (i := 9) (by kernel_rfl) rfl (fun K hK => ?_)
  go_simp
  refine (HHe.out _ ((HPr.out.below Bx.out).below (Below.drew (Below.refl _ w2)))).mono ?_
  rintro e w3 ⟨A3, c3, rfl, T3, hb3⟩
  have hb3' : Below w2.heap.size w2 w3 := (Below.drew (Below.refl _ w2)).trans hb3
  have cc : ∀ p : Addr, p.block < w2.heap.size → w3.cell? p = w2.cell? p := fun p hp => hb3'.cell hp
  have HT3 := Lib.hid (T3.mono (show w.heap.size ≤ w2.heap.size from szy))
  go_simp
  refine hK _ _ (fun _ => ⟨(cc _ szb).trans m8, (cc _ szb).trans m5, (cc _ szx).trans b0, (cc _ szx).trans b1, (cc _ szx).trans b2⟩) ?_
  clear hK K
  refine wpAnyM_rest (by kernel_rfl) ?_
  (refine wpAny_take (i := 10) (v := ?_) rfl (by kernel_rfl) (by kernel_rfl) (by kernel_rfl) (fun _ _ _ h => h) (Or.inl ⟨by rfl, ?_⟩) ?_; (rotate_left; (intro w; go_simp; try with_reducible rfl)))
  (refine wpAny_take (i := 11) (v := ?_) rfl (by kernel_rfl) (by kernel_rfl) (by kernel_rfl) (fun _ _ _ h => h) (Or.inl ⟨by rfl, ?_⟩) ?_; (rotate_left; (intro w; go_simp; try with_reducible rfl)))
  (refine wpAny_take (i := 12) (v := ?_) rfl (by kernel_rfl) (by kernel_rfl) (by kernel_rfl) (fun _ _ _ h => h) (Or.inl ⟨by rfl, ?_⟩) ?_; (rotate_left; (intro w; go_simp; try with_reducible rfl)))
  (refine wpAny_take (i := 13) (v := ?_) rfl (by kernel_rfl) (by kernel_rfl) (by kernel_rfl) (fun _ _ _ h => h) (Or.inl ⟨by rfl, ?_⟩) ?_; (rotate_left; (intro w; go_simp; try with_reducible rfl)))
  (refine wpAny_take (i := 14) (v := ?_) rfl (by kernel_rfl) (by kernel_rfl) (by kernel_rfl) (fun _ _ _ h => h) (Or.inl ⟨by rfl, ?_⟩) ?_; (rotate_left; (intro w; go_simp; try with_reducible rfl)))
  (refine wpAny_take (i := 15) (v := ?_) rfl (by kernel_rfl) (by kernel_rfl) (by kernel_rfl) (fun _ _ _ h => h) (Or.inl ⟨by rfl, ?_⟩) ?_; (rotate_left; (intro w; go_simp; try with_reducible rfl)))
  (refine wpAny_take (i := 16) (v := ?_) rfl (by kernel_rfl) (by kernel_rfl) (by kernel_rfl) (fun _ _ _ h => h) (Or.inl ⟨by rfl, ?_⟩) ?_; (rotate_left; (intro w; go_simp; try with_reducible rfl)))
  refine wpAny_done (by kernel_rfl) ?_ _
  have B3 := Lib.hid (Bx.out.trans (hb3'.mono szy))
  have R3 := HR.out.below B3.out
  obtain ⟨_, _, _, _, hnd3, _⟩ := R3.node
  have k7 : w3.cell? ⟨b, 7, none⟩ = some (.int .i64 d) := by
    obtain ⟨_, _, _, _, _, _, _, k7, _, _⟩ := HND.out.cells
    have := (B3.out.cell (p := ⟨b, 7, none⟩) hbl).trans k7
    rw [this, HDd.out]
  have k8 : w3.cell? ⟨b, 8, none⟩ = some (.slice A pn pc) := (cc ⟨b, 8, none⟩ szb).trans m8
  have kf := hnd3.frozen
  have z3 : w.heap.size ≤ w3.heap.size := B3.out.size
  have R4 := Lib.hid (HR.out.setPeers B3.out HT3.out)
  have K4 := Lib.hid ((Kept.of_below (f := f) B3.out).set HFb.out 8 (.slice A3 pn c3))
  clear hb3 hb3' cc kk m8 m5 b0 b1 b2 R3 hnd3 T3
  go_simp
  have zz4 : (w3.setCell ⟨b, 8, none⟩ (.slice A3 pn c3)).heap.size = w3.heap.size := by simp
  have HTd := Lib.hid (told_ok b { s with peers := X } (ext f w.heap.size w3.heap.size) _ R4.out HNk.out)
  have bw3 : b < w3.heap.size := by omega
  go_wp2_with fail
  refine HTd.out.mono ?_
  rintro e w5 ⟨A5, c5, rfl, own5, rep5, kept5⟩
  have O5 := Lib.hid own5
  have R5 := Lib.hid rep5
  have K5 := Lib.hid (K4.out.trans kept5 (fun x hx hfx => by
    rcases hfx with hfx | hfx
    · exact hfx
    · omega))
  have z5 := kept5.size
  clear own5 rep5 kept5
  go_wp2_with fail
  go_ret2
  exact ⟨{ s with peers := X }, A5, c5, w3.heap.size, by rw [HX.out], rfl, by have := O5.out; rw [zz4] at this; exact this, R5.out, z3, by omega, K5.out⟩
end Go.Proofs.Ytpomdnglknbanaa
