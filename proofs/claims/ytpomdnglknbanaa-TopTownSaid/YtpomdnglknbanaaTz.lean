/-
  A text of a sender that is not watched: told as ErrNone. (*Town).Join of a name that is watched.
-/
import Derived.Test.YtpomdnglknbanaaTk
import Derived.Test.YtpomdnglknbanaaNn
import Derived.Deep.DeepCutAuto
set_option linter.unusedSimpArgs false
set_option linter.unusedVariables false
namespace Go.Proofs.Ytpomdnglknbanaa
open Go Go.RowKit
set_option maxRecDepth 100000 in
set_option maxHeartbeats 8000000 in
theorem hear_none4 (A : Option Addr) (n c : Nat) (L : List Peer) (f : Nat → Prop) (id : ByteArray) (i s now : Int) (w : World) (hr : PRow w A n L f) (h1 : TabOK L) (h2 : IdOK (byts id)) (h3 : 0 ≤ i ∧ i < 2147483648) (h3' : 1 ≤ s ∧ s < 2147483648) (h4 : 0 ≤ now ∧ now ≤ 1073741824) (hb : has L id = false) :
    Calls Try.prog 42 #[.slice A n c, .agg #[.string id, .int .i64 i, .int .i64 s], .int .i64 now] w fun e w' => e = .returned (.tuple #[.slice none 0 0, .bool false, .int .i64 4]) ∧ Below w.heap.size w w' := by
  have hl := hr.1
  have HR := Lib.hid hr
  have qa := alloc_cells
  have qf := alloc_frozens
  have h6 := h1.len
  have HC := Lib.hid (fun w' (hr : PRow w' A n L f) => pcheck_ok A n c L f w' hr h1)
  have HBc := Lib.hid (fun w' => bcheck_ok id i s w' h2 h3 h3')
  have HF := Lib.hid (fun w' (hr : PRow w' A n L f) => find_ok A n c L f id w' hr (by omega) h1.order)
  obtain ⟨n1, n2⟩ := h4
  have d3 : decide (now < 0) = false := by simp; omega
  have d4 : decide (1073741824 < now) = false := by simp; omega
  rw [hb] at HF
  obtain ⟨P, hP⟩ : ∃ P, pos L id = P := ⟨_, rfl⟩
  rw [hP] at HF
  clear hr h1 h2 h3 h3' hb hP
  go_enter Try.func42, Try.ntmps42
  go_wp2_with fail
  refine (HC.out _ (HR.out.below (by repeat (first | (with_reducible exact Below.refl _ _) | ((with_reducible refine Below.alloc ?_ ?_ _); rotate_left; (next => ((try dsimp only); (try simp only [World.size_alloc, World.size_setCell, World.size_drew]); omega))) | ((with_reducible refine Below.setCell ?_ ?_ _); rotate_left; (next => ((try dsimp only); (try simp only [World.size_alloc, World.size_setCell, World.size_drew]); omega))) | (with_reducible refine Below.drew ?_) | (refine Below.trans ?_ (by assumption)))))).mono ?_
  rintro e w1 ⟨rfl, hb1⟩
  have z1 := hb1.size
  have c1 := Below.cells hb1
  have f1 := Below.frozens hb1
  try simp only [World.size_alloc, World.size_setCell, World.size_drew] at z1 c1 f1
  go_wp2_with fail
  refine (HBc.out _).mono ?_
  rintro e w2 ⟨rfl, hb2⟩
  have z2 := hb2.size
  have c2 := Below.cells hb2
  have f2 := Below.frozens hb2
  try simp only [World.size_alloc, World.size_setCell, World.size_drew] at z2 c2 f2
  go_wp2_with fail
  refine (HF.out _ (HR.out.below (by repeat (first | (with_reducible exact Below.refl _ _) | ((with_reducible refine Below.alloc ?_ ?_ _); rotate_left; (next => ((try dsimp only); (try simp only [World.size_alloc, World.size_setCell, World.size_drew]); omega))) | ((with_reducible refine Below.setCell ?_ ?_ _); rotate_left; (next => ((try dsimp only); (try simp only [World.size_alloc, World.size_setCell, World.size_drew]); omega))) | (with_reducible refine Below.drew ?_) | ((with_reducible refine Below.trans ?_ (Below.mono hb2 ?_)); rotate_left; (next => ((try dsimp only); (try simp only [World.size_alloc, World.size_setCell, World.size_drew]); omega))) | ((with_reducible refine Below.trans ?_ (Below.mono hb1 ?_)); rotate_left; (next => ((try dsimp only); (try simp only [World.size_alloc, World.size_setCell, World.size_drew]); omega))))))).mono ?_
  rintro e w3 ⟨rfl, hb3⟩
  have z3 := hb3.size
  have c3 := Below.cells hb3
  have f3 := Below.frozens hb3
  try simp only [World.size_alloc, World.size_setCell, World.size_drew] at z3 c3 f3
  go_wp2_with fail
  go_ret3
  exact ⟨rfl, (by repeat (first | (with_reducible exact Below.refl _ _) | ((with_reducible refine Below.alloc ?_ ?_ _); rotate_left; (next => ((try dsimp only); (try simp only [World.size_alloc, World.size_setCell, World.size_drew]); omega))) | ((with_reducible refine Below.setCell ?_ ?_ _); rotate_left; (next => ((try dsimp only); (try simp only [World.size_alloc, World.size_setCell, World.size_drew]); omega))) | (with_reducible refine Below.drew ?_) | ((with_reducible refine Below.trans ?_ (Below.mono hb3 ?_)); rotate_left; (next => ((try dsimp only); (try simp only [World.size_alloc, World.size_setCell, World.size_drew]); omega))) | ((with_reducible refine Below.trans ?_ (Below.mono hb2 ?_)); rotate_left; (next => ((try dsimp only); (try simp only [World.size_alloc, World.size_setCell, World.size_drew]); omega))) | ((with_reducible refine Below.trans ?_ (Below.mono hb1 ?_)); rotate_left; (next => ((try dsimp only); (try simp only [World.size_alloc, World.size_setCell, World.size_drew]); omega)))))⟩
set_option maxRecDepth 100000 in
set_option maxHeartbeats 16000000 in
theorem nhear_none4 (b : Nat) (s : NSt) (f : Nat → Prop) (id : ByteArray) (i q : Nat) (w : World) (h : NRep w b s f) (ok : NOK s) (hbk : BOK (byts id) i q) (hno : has s.peers id = false) :
    Calls Try.prog 31 #[.pointer (some ⟨b, 0, none⟩), .string (mkB (encL (byts id) i q))] w fun e w' => e = .returned (.tuple #[.slice none 0 0, .int .i64 4]) ∧ NRep w' b { s with drops := more s.drops } f ∧ Kept f w w' := by
  have HD := Lib.hid (fun w' => decode_enc id i q w' hbk)
  have HR := Lib.hid h
  obtain ⟨A, pn, pc, S, hnd, hpr⟩ := h.node
  have hbl := hnd.lt
  have hfb := h.fb
  have HFb := Lib.hid hfb
  obtain ⟨_, _, _, _, _, k5, _, k7, k8, _⟩ := hnd.cells
  have kf := hnd.frozen
  have dr := ok.drops
  have pl := hpr.1
  have HPr := Lib.hid hpr
  have HOk := Lib.hid ok
  have HHe := Lib.hid (fun w' (hr : PRow w' A pn s.peers f) => hear_none4 A pn pc s.peers f id i q s.now w' hr ok.tab hbk.1 (by have := hbk.2.1; omega) (by have := hbk.2.2; omega) (by have := ok.now; omega) hno)
  obtain ⟨tx, htx⟩ : ∃ t, mkB (encL (byts id) i q) = t := ⟨_, rfl⟩
  rw [htx] at HD
  rw [htx]
  obtain ⟨d, hd⟩ : ∃ d, s.drops = d := ⟨_, rfl⟩
  rw [hd] at k7 dr
  have HDd := Lib.hid hd
  have w1 : IntKind.i64.wrap (d + 1) = d + 1 := IntWalk.i64_in _ (by omega)
  obtain ⟨d1, hd1⟩ : ∃ x, min (d + 1) 1073741824 = x := ⟨_, rfl⟩
  have HM := Lib.hid (show more s.drops = d1 by unfold more; rw [hd, hd1])
  obtain ⟨nw, hnw⟩ : ∃ x, s.now = x := ⟨_, rfl⟩
  rw [hnw] at k5 HHe
  have HNw := Lib.hid hnw
  have qa := alloc_cells
  have qf := alloc_frozens
  have HND := Lib.hid hnd
  clear h ok hnd hfb hbk hpr htx hnw hd hno
  go_enter Try.func31, Try.ntmps31
  go_wp2_with fail
  refine (HD.out _).mono ?_
  rintro e w1 ⟨rfl, hb1⟩
  have z1 := hb1.size
  have c1 := Below.cells hb1
  have f1 := Below.frozens hb1
  try simp only [World.size_alloc, World.size_setCell, World.size_drew] at z1 c1 f1
  go_wp2_with fail
  have Bx := Lib.hid (show Below w.heap.size w (w1.alloc (.cells #[.string id, .int .i64 (i : Int), .int .i64 (q : Int)] 42)) from (by repeat (first | (with_reducible exact Below.refl _ _) | ((with_reducible refine Below.alloc ?_ ?_ _); rotate_left; (next => ((try dsimp only); (try simp only [World.size_alloc, World.size_setCell, World.size_drew]); omega))) | ((with_reducible refine Below.setCell ?_ ?_ _); rotate_left; (next => ((try dsimp only); (try simp only [World.size_alloc, World.size_setCell, World.size_drew]); omega))) | (with_reducible refine Below.drew ?_) | ((with_reducible refine Below.trans ?_ (Below.mono hb1 ?_)); rotate_left; (next => ((try dsimp only); (try simp only [World.size_alloc, World.size_setCell, World.size_drew]); omega))))))
  have m8 : (w1.alloc (.cells #[.string id, .int .i64 (i : Int), .int .i64 (q : Int)] 42)).cell? ⟨b, 8, none⟩ = some (.slice A pn pc) := (Bx.out.cell (p := ⟨b, 8, none⟩) hbl).trans k8
  have m5 : (w1.alloc (.cells #[.string id, .int .i64 (i : Int), .int .i64 (q : Int)] 42)).cell? ⟨b, 5, none⟩ = some (.int .i64 nw) := (Bx.out.cell (p := ⟨b, 5, none⟩) hbl).trans k5
  have b0 : (w1.alloc (.cells #[.string id, .int .i64 (i : Int), .int .i64 (q : Int)] 42)).cell? ⟨w1.heap.size, 0, none⟩ = some (.string id) := World.cell?_alloc_new _ _ _ 0
  have b1 : (w1.alloc (.cells #[.string id, .int .i64 (i : Int), .int .i64 (q : Int)] 42)).cell? ⟨w1.heap.size, 1, none⟩ = some (.int .i64 (i : Int)) := World.cell?_alloc_new _ _ _ 1
  have b2 : (w1.alloc (.cells #[.string id, .int .i64 (i : Int), .int .i64 (q : Int)] 42)).cell? ⟨w1.heap.size, 2, none⟩ = some (.int .i64 (q : Int)) := World.cell?_alloc_new _ _ _ 2
  have szx : w1.heap.size < (w1.alloc (.cells #[.string id, .int .i64 (i : Int), .int .i64 (q : Int)] 42)).heap.size := by simp
  have szy : w.heap.size ≤ (w1.alloc (.cells #[.string id, .int .i64 (i : Int), .int .i64 (q : Int)] 42)).heap.size := Bx.out.size
  have szb : b < (w1.alloc (.cells #[.string id, .int .i64 (i : Int), .int .i64 (q : Int)] 42)).heap.size := by omega
  generalize (w1.alloc (.cells #[.string id, .int .i64 (i : Int), .int .i64 (q : Int)] 42)) = w2 at Bx m8 m5 b0 b1 b2 szx szy szb ⊢
  clear hb1 c1 f1 z1 qa qf k5 k7 k8 kf
  have kk : w2.drew.cell? ⟨b, 8, none⟩ = some (.slice A pn pc) ∧ w2.drew.cell? ⟨b, 5, none⟩ = some (.int .i64 nw) ∧ w2.drew.cell? ⟨w1.heap.size, 0, none⟩ = some (.string id) ∧ w2.drew.cell? ⟨w1.heap.size, 1, none⟩ = some (.int .i64 (i : Int)) ∧ w2.drew.cell? ⟨w1.heap.size, 2, none⟩ = some (.int .i64 (q : Int)) := ⟨m8, m5, b0, b1, b2⟩
  have M2 := Lib.hid kk
  refine wp_region_M (fun w' => w'.cell? ⟨b, 8, none⟩ = some (.slice A pn pc) ∧ w'.cell? ⟨b, 5, none⟩ = some (.int .i64 nw) ∧ w'.cell? ⟨w1.heap.size, 0, none⟩ = some (.string id) ∧ w'.cell? ⟨w1.heap.size, 1, none⟩ = some (.int .i64 (i : Int)) ∧ w'.cell? ⟨w1.heap.size, 2, none⟩ = some (.int .i64 (q : Int))) (fun j => decide (10 ≤ j)) 17 rfl (by kernel_rfl) ?_
  (refine wpAnyM_take (i := 0) (v := ?_) rfl (by kernel_rfl) (by kernel_rfl) (by kernel_rfl) (by kernel_rfl) (fun _ _ _ h => h) (Or.inl ⟨by rfl, ?_⟩) kk ?_; (rotate_left; (intro w hSw; (try dsimp only at hSw); go_simp; try with_reducible rfl)); (try simp only [Act.put, List.setIfInBounds_toArray, List.set_cons_zero, List.set_cons_succ]))
  (refine wpAnyM_take (i := 1) (v := ?_) rfl (by kernel_rfl) (by kernel_rfl) (by kernel_rfl) (by kernel_rfl) (fun _ _ _ h => h) (Or.inl ⟨by rfl, ?_⟩) kk ?_; (rotate_left; (intro w hSw; (try dsimp only at hSw); go_simp; try with_reducible rfl)); (try simp only [Act.put, List.setIfInBounds_toArray, List.set_cons_zero, List.set_cons_succ]))
  (refine wpAnyM_take (i := 2) (v := ?_) rfl (by kernel_rfl) (by kernel_rfl) (by kernel_rfl) (by kernel_rfl) (fun _ _ _ h => h) (Or.inl ⟨by rfl, ?_⟩) kk ?_; (rotate_left; (intro w hSw; (try dsimp only at hSw); go_simp; try with_reducible rfl)); (try simp only [Act.put, List.setIfInBounds_toArray, List.set_cons_zero, List.set_cons_succ]))
  (refine wpAnyM_take (i := 3) (v := ?_) rfl (by kernel_rfl) (by kernel_rfl) (by kernel_rfl) (by kernel_rfl) (fun _ _ _ h => h) (Or.inl ⟨by rfl, ?_⟩) kk ?_; (rotate_left; (intro w hSw; (try dsimp only at hSw); go_simp; try with_reducible rfl)); (try simp only [Act.put, List.setIfInBounds_toArray, List.set_cons_zero, List.set_cons_succ]))
  (refine wpAnyM_take (i := 4) (v := ?_) rfl (by kernel_rfl) (by kernel_rfl) (by kernel_rfl) (by kernel_rfl) (fun _ _ _ h => h) (Or.inl ⟨by rfl, ?_⟩) kk ?_; (rotate_left; (intro w hSw; (try dsimp only at hSw); go_simp; try with_reducible rfl)); (try simp only [Act.put, List.setIfInBounds_toArray, List.set_cons_zero, List.set_cons_succ]))
  (refine wpAnyM_take (i := 5) (v := ?_) rfl (by kernel_rfl) (by kernel_rfl) (by kernel_rfl) (by kernel_rfl) (fun _ _ _ h => h) (Or.inl ⟨by rfl, ?_⟩) kk ?_; (rotate_left; (intro w hSw; (try dsimp only at hSw); go_simp; try with_reducible rfl)); (try simp only [Act.put, List.setIfInBounds_toArray, List.set_cons_zero, List.set_cons_succ]))
  (refine wpAnyM_take (i := 6) (v := ?_) rfl (by kernel_rfl) (by kernel_rfl) (by kernel_rfl) (by kernel_rfl) (fun _ _ _ h => h) (Or.inl ⟨by rfl, ?_⟩) kk ?_; (rotate_left; (intro w hSw; (try dsimp only at hSw); go_simp; try with_reducible rfl)); (try simp only [Act.put, List.setIfInBounds_toArray, List.set_cons_zero, List.set_cons_succ]))
  (refine wpAnyM_take (i := 7) (v := ?_) rfl (by kernel_rfl) (by kernel_rfl) (by kernel_rfl) (by kernel_rfl) (fun _ _ _ h => h) (Or.inl ⟨by rfl, ?_⟩) kk ?_; (rotate_left; (intro w hSw; (try dsimp only at hSw); go_simp; try with_reducible rfl)); (try simp only [Act.put, List.setIfInBounds_toArray, List.set_cons_zero, List.set_cons_succ]))
  (refine wpAnyM_take (i := 8) (v := ?_) rfl (by kernel_rfl) (by kernel_rfl) (by kernel_rfl) (by kernel_rfl) (fun _ _ _ h => h) (Or.inl ⟨by rfl, ?_⟩) kk ?_; (rotate_left; (intro w hSw; (try dsimp only at hSw); go_simp; try with_reducible rfl)); (try simp only [Act.put, List.setIfInBounds_toArray, List.set_cons_zero, List.set_cons_succ]))
  refine wpAnyM_one (i := 9) (by kernel_rfl) rfl (fun K hK => ?_)
  go_simp
  refine (HHe.out _ ((HPr.out.below Bx.out).below (Below.drew (Below.refl _ w2)))).mono ?_
  rintro e w3 ⟨rfl, hb3⟩
  have hb3' : Below w2.heap.size w2 w3 := (Below.drew (Below.refl _ w2)).trans hb3
  have cc : ∀ p : Addr, p.block < w2.heap.size → w3.cell? p = w2.cell? p := fun p hp => hb3'.cell hp
  go_simp
  refine hK _ _ (fun _ => ⟨(cc _ szb).trans m8, (cc _ szb).trans m5, (cc _ szx).trans b0, (cc _ szx).trans b1, (cc _ szx).trans b2⟩) ?_
  clear hK K
  refine wpAnyM_rest (by kernel_rfl) ?_
  (refine wpAny_take (i := 10) (v := ?_) rfl (by kernel_rfl) (by kernel_rfl) (by kernel_rfl) (fun _ _ _ h => h) (Or.inl ⟨by rfl, ?_⟩) ?_; (rotate_left; (intro w; go_simp; try with_reducible rfl)))
  (refine wpAny_take (i := 11) (v := ?_) rfl (by kernel_rfl) (by kernel_rfl) (by kernel_rfl) (fun _ _ _ h => h) (Or.inl ⟨by rfl, ?_⟩) ?_; (rotate_left; (intro w; go_simp; try with_reducible rfl)))
  (refine wpAny_take (i := 12) (v := ?_) rfl (by kernel_rfl) (by kernel_rfl) (by kernel_rfl) (fun _ _ _ h => h) (Or.inl ⟨by rfl, ?_⟩) ?_; (rotate_left; (intro w; go_simp; try with_reducible rfl)))
  (refine wpAny_take (i := 13) (v := ?_) rfl (by kernel_rfl) (by kernel_rfl) (by kernel_rfl) (fun _ _ _ h => h) (Or.inl ⟨by rfl, ?_⟩) ?_; (rotate_left; (intro w; go_simp; try with_reducible rfl)))
  (refine wpAny_take (i := 14) (v := ?_) rfl (by kernel_rfl) (by kernel_rfl) (by kernel_rfl) (fun _ _ _ h => h) (Or.inl ⟨by rfl, ?_⟩) ?_; (rotate_left; (intro w; go_simp; try with_reducible rfl)))
  (refine wpAny_take (i := 15) (v := ?_) rfl (by kernel_rfl) (by kernel_rfl) (by kernel_rfl) (fun _ _ _ h => h) (Or.inl ⟨by rfl, ?_⟩) ?_; (rotate_left; (intro w; go_simp; try with_reducible rfl)))
  (refine wpAny_take (i := 16) (v := ?_) rfl (by kernel_rfl) (by kernel_rfl) (by kernel_rfl) (fun _ _ _ h => h) (Or.inl ⟨by rfl, ?_⟩) ?_; (rotate_left; (intro w; go_simp; try with_reducible rfl)))
  refine wpAny_done (by kernel_rfl) ?_ _
  have B3 := Lib.hid (Bx.out.trans (hb3'.mono szy))
  have R3 := HR.out.below B3.out
  obtain ⟨_, _, _, _, hnd3, _⟩ := R3.node
  have k7 : w3.cell? ⟨b, 7, none⟩ = some (.int .i64 d) := by
    obtain ⟨_, _, _, _, _, _, _, k7, _, _⟩ := HND.out.cells
    have := (B3.out.cell (p := ⟨b, 7, none⟩) hbl).trans k7
    rw [this, HDd.out]
  have kf := hnd3.frozen
  have R4 := Lib.hid (R3.setDrops d1)
  have K4 := Lib.hid ((Kept.of_below (f := f) B3.out).set HFb.out 7 (.int .i64 d1))
  clear hb3 hb3' cc kk m8 m5 b0 b1 b2 R3 hnd3
  go_simp
  go_wp2_with fail
  go_ret2
  exact ⟨rfl, by rw [HM.out]; exact R4.out, K4.out⟩
section
variable {t i : Nat} {S : TSt} {f : Nat → Prop}
set_option maxRecDepth 100000 in
set_option maxHeartbeats 8000000 in
theorem tbring_self (w : World) {u : Nat} {id : ByteArray} {q : Int} (h : TRep w t S f) (hi : i < S.way.length) (ht : u < S.n) (hd : S.dead u = false) (ok : NOK (S.nd u)) (hid : IdOK (byts id)) (hq : 1 ≤ q ∧ q < 2147483648) (hno : has (S.nd u).peers id = false) (hx : S.way.getD i ⟨#[]⟩ = mkB (encL (byts id) 0 q.toNat)) :
    Calls Try.prog 68 #[.pointer (some ⟨t, 0, none⟩), .int .i64 i, .int .i64 u] w fun e w' => e = .returned (.tuple #[.slice none 0 0, .int .i64 4]) ∧ (∃ f', TRep w' t (setN S u (hearF (S.nd u) id q).1) f' ∧ (∀ x, f' x → f x ∨ w.heap.size ≤ x)) ∧ Kept f w w' := by
  obtain ⟨c, ga, gn, gd, ca, cn, cd, wv, bs, h⟩ := h
  obtain ⟨_, k1, k2, k3, _⟩ := h.cells
  obtain ⟨_, p1, p2, nr, tl, nl, dl, _⟩ := h.parts ht
  obtain ⟨gw, cw, rfl, wl, xw⟩ := h.wayAt hi
  rw [hx] at xw
  rw [hd] at p2
  have HRep := Lib.hid h
  have HT := Lib.hid ht
  have HNr := Lib.hid nr
  have HHr := Lib.hid (fun w' (r : NRep w' (bs u) (S.nd u) (fun x => f x ∧ c x = u + 5)) => nhear_none4 (bs u) (S.nd u) _ id 0 q.toNat w' r ok ⟨hid, by omega, by omega, by omega⟩ hno)
  rw [show ({ S.nd u with drops := more (S.nd u).drops } : NSt) = (hearF (S.nd u) id q).1 by rw [hearF_no hno]; rfl] at HHr
  have HEv := Lib.hid (show (hearF (S.nd u) id q).1.every = (S.nd u).every by unfold hearF; split; (split <;> rfl); rfl)
  obtain ⟨tx, htx⟩ : ∃ x, mkB (encL (byts id) 0 q.toNat) = x := ⟨_, rfl⟩
  rw [htx] at xw HHr
  obtain ⟨R, hR⟩ : ∃ R, hearF (S.nd u) id q = R := ⟨_, rfl⟩
  rw [hR] at HHr HEv ⊢
  obtain ⟨n, hn⟩ : ∃ n, S.n = n := ⟨_, rfl⟩
  rw [hn] at k1 k2 ht
  obtain ⟨m, hm⟩ : ∃ m, S.way.length = m := ⟨_, rfl⟩
  rw [hm] at k3 hi
  have i0 : ¬ (i : Int) < 0 := by omega
  have i1 : (i : Int) < m := by omega
  have i2 : decide ((m : Int) ≤ i) = false := by simp; omega
  have j0 : ¬ (u : Int) < 0 := by omega
  have j1 : (u : Int) < n := by omega
  have j2 : decide ((n : Int) ≤ u) = false := by simp; omega
  clear h nr ok hd hn hm htx hR hx hid hq hno
  go_enter Try.func68, Try.ntmps68
  go_wp2_with fail
  refine wp_region_quiet_then 14 #[true, true, true, true, true, true, true, true, true, true, true, true, true, true, false, false, false, false, false] (Ext _) (by kernel_rfl) (by kernel_rfl) (Ext.drawn _) ?_
  simp only [List.take_succ_cons, List.take_zero]
  repeat (first | go_big_quiet_skip | go_big_quiet_step (fail) | (refine BigFrame.wpQuiet_want rfl (fun K hK => ?_); apply Exists.intro; refine ⟨fun w2 h2 => ?_, ?_⟩; (next => (have g1 := Below.cells h2.below; have g2 := Below.frozens h2.below; (try simp only [World.size_alloc, World.size_setCell] at g1 g2); first | (go_simp; (fail)) | (simp [go_sem, ↓IntWalk.iteOmega, *]; done) | (simp [go_sem, ↓IntWalk.iteOmega, *]; rfl)))); (go_simp; refine hK _ ?_; clear hK K))
  refine wpQuiet_nil ?_
  intro w5 h5
  have hb5 := h5.below
  clear h5
  change wpAny _ _ _ _ 5 _ _ _
  have z5 := hb5.size
  have c5 := Below.cells hb5
  have f5 := Below.frozens hb5
  try simp only [World.size_alloc, World.size_setCell, World.size_drew] at z5 c5 f5
  refine wpAny_ready (rs := [14]) (by kernel_rfl) (by simp) ?_
  refine AllReady.cons rfl (fun K hK => ?_) AllReady.nil
  rw [if_pos (by rfl)]
  go_simp
  refine (HHr.out w5 (HNr.out.below hb5)).mono ?_
  rintro e w6 ⟨rfl, rep, kept⟩
  have N6 := Lib.hid ((HRep.out.below hb5).node (M := w6.heap.size) HT.out rep ⟨kept.size, Nat.le_refl _⟩ (fun x hx => .inl hx) kept HEv.out)
  have K5 := Lib.hid (Kept.of_below (f := f) hb5)
  have z5' := hb5.size
  clear rep kept
  go_simp
  refine hK _ _ ?_
  clear hK K
  (refine wpAny_take (i := 15) (v := ?_) rfl (by kernel_rfl) (by kernel_rfl) (by kernel_rfl) (fun _ _ _ h => h) (Or.inl ⟨by rfl, ?_⟩) ?_; (rotate_left; (intro w; go_simp; try with_reducible rfl)))
  (refine wpAny_take (i := 16) (v := ?_) rfl (by kernel_rfl) (by kernel_rfl) (by kernel_rfl) (fun _ _ _ h => h) (Or.inl ⟨by rfl, ?_⟩) ?_; (rotate_left; (intro w; go_simp; try with_reducible rfl)))
  (refine wpAny_take (i := 17) (v := ?_) rfl (by kernel_rfl) (by kernel_rfl) (by kernel_rfl) (fun _ _ _ h => h) (Or.inl ⟨by rfl, ?_⟩) ?_; (rotate_left; (intro w; go_simp; try with_reducible rfl)))
  (refine wpAny_take (i := 18) (v := ?_) rfl (by kernel_rfl) (by kernel_rfl) (by kernel_rfl) (fun _ _ _ h => h) (Or.inl ⟨by rfl, ?_⟩) ?_; (rotate_left; (intro w; go_simp; try with_reducible rfl)))
  refine wpAny_done (by kernel_rfl) ?_ _
  go_simp
  go_wp2_with fail
  go_ret2
  refine ⟨rfl, ⟨_, ⟨_, _, _, _, _, _, _, _, _, N6.out.1⟩, fun x hx => hx.imp (fun h => h) (fun h => by omega)⟩, K5.out.trans N6.out.2 (fun x _ hx => hx)⟩
set_option maxRecDepth 100000 in
set_option maxHeartbeats 8000000 in
theorem tjoin_ok (w : World) (id : ByteArray) (th : Int) (h : TRep w t S f) (hi : i < S.n) (hd : S.dead i = false) (ok : NOK (S.nd i)) (ht : 1 ≤ th ∧ th ≤ 60) (hid : has (S.nd i).peers id = true) (hs : (S.nd i).subs = []) :
    Calls Try.prog 58 #[.pointer (some ⟨t, 0, none⟩), .int .i64 i, .string id, .int .i64 th] w fun e w' => ∃ A' c' k f', e = .returned (.tuple #[.slice A' k c', .int .i64 0]) ∧ TRep w' t (setN S i (joinF (S.nd i) id th).1) f' ∧ (∀ x, f' x → f x ∨ w.heap.size ≤ x) ∧ Kept f w w' := by
  obtain ⟨c, ga, gn, gd, ca, cn, cd, wv, bs, h⟩ := h
  obtain ⟨_, k1, k2, _, _⟩ := h.cells
  obtain ⟨_, p1, p2, nr, tl, nl, dl, _⟩ := h.parts hi
  rw [hd] at p2
  have HRep := Lib.hid h
  have HI := Lib.hid hi
  have HNr := Lib.hid nr
  have HJ := Lib.hid (fun w' (r : NRep w' (bs i) (S.nd i) (fun x => f x ∧ c x = i + 5)) => ajoin (id := id) (th := th) w' r ok ht)
  rw [if_pos hid, hs, if_neg (show ¬ 0 ≤ idxS (hitS id th) [] by simp [idxS]), if_pos (show ([] : List Sub).length < 8 by simp)] at HJ
  have HEv := Lib.hid (show (joinF (S.nd i) id th).1.every = (S.nd i).every by unfold joinF; split <;> rfl)
  obtain ⟨R, hR⟩ : ∃ R, joinF (S.nd i) id th = R := ⟨_, rfl⟩
  rw [hR] at HJ HEv ⊢
  obtain ⟨n, hn⟩ : ∃ n, S.n = n := ⟨_, rfl⟩
  rw [hn] at k1 k2 hi
  have i0 : ¬ (i : Int) < 0 := by omega
  have i1 : (i : Int) < n := by omega
  have i2 : decide ((n : Int) ≤ i) = false := by simp; omega
  clear h nr ok hd hn hR hid hs ht
  go_enter Try.func58, Try.ntmps58
  go_wp2_with fail
  refine (HJ.out _ HNr.out).mono ?_
  rintro e w6 ⟨A', c', mm, e0, rfl, own, rep, hm1, hm2, kept, rfl⟩
  have N6 := Lib.hid (HRep.out.node (M := w6.heap.size) HI.out rep ⟨kept.size, Nat.le_refl _⟩ (fun x hx => hx.imp (fun h => h) (fun h => ⟨h.1, by omega⟩)) kept HEv.out)
  clear own rep kept
  go_wp2_with fail
  go_ret2
  exact ⟨A', c', _, _, rfl, ⟨_, _, _, _, _, _, _, _, _, N6.out.1⟩, fun x hx => hx.imp (fun h => h) (fun h => h.1), N6.out.2⟩
end
end Go.Proofs.Ytpomdnglknbanaa
