import Derived.Test.YtpomdnglknbanaaNw
import Derived.Test.YtpomdnglknbanaaNk
import Derived.Test.YtpomdnglknbanaaTb
import Derived.Test.YtpomdnglknbanaaSw
import Derived.Test.YtpomdnglknbanaaPu2
set_option linter.unusedSimpArgs false
set_option linter.unusedVariables false
namespace Go.Proofs.Ytpomdnglknbanaa
open Go Go.RowKit
theorem pos_one (p : Peer) : pos [p] p.id = 0 := by simp [pos, sl_irr]
theorem has_one (p : Peer) : has [p] p.id = true := by unfold has; rw [pos_one]; simp
theorem hear_one (p : Peer) (i q now : Int) (h : newer p i q = true) : hearS [p] p.id i q now = [{ p with inc := i, seq := q, vals := pushd p.cap p.vals (min (now - p.last) 16777216), last := now }] := by
  unfold hearS heardP pushd
  rw [pos_one]
  simp [h]
theorem InRow.kept {f : Nat → Prop} {w w' : World} {A : Option Addr} {n c : Nat} {l : List Int} (h : InRow w A n c l) (hf : ∀ g off, A = some ⟨g, off, none⟩ → ¬ f g) (hk : Kept f w w') : InRow w' A n c l :=
  h.same (f := fun x => ¬ f x) (fun g off e => hf g off e) ⟨hk.size, fun x hx hfx => hk.block x hx hfx⟩
theorem Kept.cell {f : Nat → Prop} {w w' : World} (hk : Kept f w w') {b o : Nat} (hb : b < w.heap.size) (hf : ¬ f b) : w'.cell? ⟨b, o, none⟩ = w.cell? ⟨b, o, none⟩ := cell_same (hk.block b hb hf)
theorem Kept.frozen {f : Nat → Prop} {w w' : World} (hk : Kept f w w') {b o : Nat} (hb : b < w.heap.size) (hf : ¬ f b) : w'.frozen? ⟨b, o, none⟩ = w.frozen? ⟨b, o, none⟩ := World.frozen?_of_block (hk.block b hb hf)
theorem lt_of_some' {w : World} {b : Nat} {x : Obj} (h : w.heap[b]? = some x) : b < w.heap.size := (Array.getElem?_eq_some_iff.1 h).1
def wst (k sq : Nat) (ls nw : Int) (W : List Int) : NSt := ⟨⟨#[97]⟩, 0, 1000, 5, 2, nw, sq, 0, [⟨⟨#[98]⟩, 0, k, 0, 5, W, ls⟩], []⟩
theorem id98 : IdOK (byts ⟨#[98]⟩) := ⟨by decide, by decide, by decide⟩
theorem id97' : IdOK (byts ⟨#[97]⟩) := ⟨by decide, by decide, by decide⟩
theorem wst_ok {k sq : Nat} {ls nw : Int} {W : List Int} (hk : k ≤ 1000000) (hl : 0 ≤ ls ∧ ls ≤ nw) (hn : 0 ≤ nw ∧ nw ≤ 1073741824) (hs : (sq : Int) = nw / 1000) (hW : 1 ≤ W.length ∧ W.length ≤ 5) (hb : Btw 0 16777216 W) : NOK (wst k sq ls nw W) := by
  have hsq : (sq : Int) ≤ nw := by rw [hs]; omega
  refine ⟨id97', by simp [wst], by simp [wst], by simp [wst], by simp [wst], hn, ⟨by simp [wst], hsq⟩, by simp [wst], ⟨by simp [wst], fun p hp => ?_, by simp [wst]⟩, fun p hp => ?_, by simp [wst]⟩
  · simp only [wst, List.mem_singleton] at hp
    subst hp
    exact ⟨id98, ⟨by simp, by simp, by simp, by simp; omega, by simp, by simp, by simp⟩, ⟨by simp, by simp, by simp; omega, hb⟩, ⟨hl.1, by show ls ≤ _; omega⟩⟩
  · simp only [wst, List.mem_singleton] at hp
    subst hp
    exact ⟨hW.1, hl.2⟩
theorem wtick {b k sq m : Nat} {ls nw g : Int} {W : List Int} {f : Nat → Prop} (w : World) (h : NRep w b (wst k sq ls nw W) f) (hk : k ≤ 1000000) (hl : 0 ≤ ls ∧ ls ≤ nw) (hn : 0 ≤ nw ∧ nw + g ≤ 1073741824) (hg : 1 ≤ g ∧ g ≤ 60000) (hs : (sq : Int) = nw / 1000) (hm : (nw + g) / 1000 = sq + m) (hW : 1 ≤ W.length ∧ W.length ≤ 5) (hb : Btw 0 16777216 W) :
    Calls Try.prog 29 #[.pointer (some ⟨b, 0, none⟩), .int .i64 g] w fun e w' => ∃ v A' c', e = .returned (.tuple #[v, .slice A' 0 c', .int .i64 0]) ∧ NRep w' b (wst k (sq + m) ls (nw + g) W) f ∧ Kept f w w' := by
  have hok := wst_ok (k := k) (sq := sq) (ls := ls) (nw := nw) (W := W) hk hl ⟨hn.1, by omega⟩ hs hW hb
  refine (tick_ok (inc := 0) (seq := sq) (m := m) (g := g) (D := sq) w h hok rfl rfl ⟨by omega, by omega⟩ (by show nw + g ≤ _; omega) (by show g / 1000 < 64; omega) (by show nw / 1000 = _; omega) hm (by omega) (fun t ht => by
    rw [ht]
    exact wst_ok (k := k) (sq := sq + m) (ls := ls) (nw := nw + g) (W := W) hk ⟨hl.1, by omega⟩ ⟨by omega, by omega⟩ (by omega) hW hb)).mono ?_
  rintro e w' ⟨t, v, A', c', rfl, rfl, _, _, rep, kept⟩
  exact ⟨v, A', c', rfl, rep, kept⟩
theorem whear {b k sq : Nat} {ls nw : Int} {W : List Int} {f : Nat → Prop} (w : World) (h : NRep w b (wst k sq ls nw W) f) (hk : k ≤ 1000000) (hl : 0 ≤ ls ∧ ls ≤ nw) (hn : 0 ≤ nw ∧ nw ≤ 1073741824) (hg : nw - ls ≤ 16777216) (hs : (sq : Int) = nw / 1000) (hW : 1 ≤ W.length ∧ W.length ≤ 5) (hb : Btw 0 16777216 W) :
    Calls Try.prog 31 #[.pointer (some ⟨b, 0, none⟩), .string (mkB (encL (byts ⟨#[98]⟩) 0 (k + 1)))] w fun e w' => ∃ A' c' m, e = .returned (.tuple #[.slice A' 0 c', .int .i64 0]) ∧ NRep w' b (wst (k + 1) sq nw nw (pushd 5 W (nw - ls))) (ext f w.heap.size m) ∧ Kept f w w' := by
  have hok := wst_ok (k := k) (sq := sq) (ls := ls) (nw := nw) (W := W) hk hl hn hs hW hb
  have hnew : newer (⟨⟨#[98]⟩, 0, k, 0, 5, W, ls⟩ : Peer) (0 : Nat) ((k + 1 : Nat) : Int) = true := by simp [newer]; omega
  have hp := pos_one (⟨⟨#[98]⟩, 0, k, 0, 5, W, ls⟩ : Peer)
  have hh := has_one (⟨⟨#[98]⟩, 0, k, 0, 5, W, ls⟩ : Peer)
  refine (nhear_new b (wst k sq ls nw W) f ⟨#[98]⟩ 0 (k + 1) w h hok ⟨id98, by omega, by omega, by omega⟩ hh (by
    rw [show (wst k sq ls nw W).peers = [⟨⟨#[98]⟩, 0, k, 0, 5, W, ls⟩] from rfl, show pos [(⟨⟨#[98]⟩, 0, k, 0, 5, W, ls⟩ : Peer)] ⟨#[98]⟩ = 0 from hp]; exact hnew)).mono ?_
  rintro e w' ⟨t, A', c', m, ht, rfl, _, rep, _, _, kept⟩
  have e1 : t = wst (k + 1) sq nw nw (pushd 5 W (nw - ls)) := by
    rw [ht]
    have := hear_one (⟨⟨#[98]⟩, 0, k, 0, 5, W, ls⟩ : Peer) (0 : Nat) ((k + 1 : Nat) : Int) nw hnew
    simp only [wst] at this ⊢
    rw [this, show min (nw - ls) 16777216 = nw - ls by omega]
    rfl
  subst e1
  exact ⟨A', c', m, rfl, rep, kept⟩
set_option maxRecDepth 100000 in
set_option maxHeartbeats 16000000 in
theorem topWatch_walk (a : Option Addr) (len cap : Nat) (l : List Int) (p : Int) (w : World) (hin : InRow w a len cap l) (_ : (Lit.int .i64 p).wf = true) :
    Calls Try.prog 3 #[.slice a len cap, .int .i64 p] w fun e w' => e = .returned (.bool true) ∧ Below w.heap.size w w' := by
  obtain ⟨hr, hcp, hmx, hnil⟩ := hin
  unfold maxLen at hmx
  have hll := hr.len
  obtain ⟨n, hn⟩ : ∃ n : Nat, min len 50 = n := ⟨_, rfl⟩
  have hmin : min (len : Int) 50 = (n : Int) := by omega
  have hnl : n ≤ len := by omega
  have nl' : (n : Int) ≤ len := by omega
  have nc' : (n : Int) ≤ cap := by omega
  have hn50 : n ≤ 50 := by omega
  have b1 := within_bd p (n := 20000) (by omega)
  obtain ⟨EP, e_EP⟩ : ∃ z_, within p 20000 = z_ := ⟨_, rfl⟩
  rw [e_EP] at b1
  have HEP := Lib.hid e_EP
  clear e_EP
  obtain ⟨late, hlate⟩ : ∃ e, 1 + EP = e := ⟨_, rfl⟩
  have Lb : 1 ≤ late ∧ late ≤ 20000 := by omega
  have v0 : IntKind.i64.wrap (1 + EP) = late := by rw [hlate]; exact IntWalk.i64_in _ (by omega)
  have hid : IdOK (byts ⟨#[97]⟩) := by unfold IdOK byts; decide
  have HNew := Lib.hid (fun w' => new_ok ⟨#[97]⟩ 0 1000 5 2 w' hid (by omega) (by omega) (by omega) (by omega))
  have HB := Lib.hid (hr.each)
  have HT0 := Lib.hid (fun w => te_begun w)
  have HWa := Lib.hid (fun b w' (h : NRep w' b ⟨⟨#[97]⟩, 0, 1000, 5, 2, 0, 0, 0, [], []⟩ (fun x => x = b)) => nwatch_ok b _ _ ⟨#[98]⟩ 10 w' h (NOK.new hid (by omega) (by omega) (by omega) (by omega)) (by decide) id98 (by omega) rfl (by simp))
  have hslice : ∀ A, a = some A → True := fun _ _ => trivial
  clear hr hnil hid hslice hn
  have qa := alloc_cells
  have qf := alloc_frozens
  go_enter Try.func3, Try.ntmps3
  go_wp2_with fail
  refine (HT0.out _).mono ?_
  rintro e w1 ⟨rfl, hb1⟩
  have z1 := hb1.size
  have c1 := Below.cells hb1
  have f1 := Below.frozens hb1
  try simp only [World.size_alloc, World.size_setCell, World.size_drew] at z1 c1 f1
  go_wp2_with fail
  refine (config_ok _ _ _).mono ?_
  rintro e w2 ⟨rfl, hb2⟩
  have z2 := hb2.size
  have c2 := Below.cells hb2
  have f2 := Below.frozens hb2
  try simp only [World.size_alloc, World.size_setCell, World.size_drew] at z2 c2 f2
  go_wp2_with fail
  refine (HNew.out _).mono ?_
  rintro e w3 ⟨b, rfl, bb, nd3, hb3⟩
  have z3 := hb3.size
  have R3 := Lib.hid (NRep.new nd3)
  have bs := nd3.lt
  clear nd3
  go_wp2_with fail
  refine (HWa.out b w3 R3.out).mono ?_
  rintro e w4 ⟨rfl, ⟨m4, rep4⟩, k4⟩
  have z4 := k4.size
  have R4 := Lib.hid rep4
  have B4 := Lib.hid (show Below w.heap.size w w4 from (show Below w.heap.size w w3 from (by repeat (first | (with_reducible exact Below.refl _ _) | ((with_reducible refine Below.alloc ?_ ?_ _); rotate_left; (next => ((try dsimp only); (try simp only [World.size_alloc, World.size_setCell, World.size_drew]); omega))) | ((with_reducible refine Below.setCell ?_ ?_ _); rotate_left; (next => ((try dsimp only); (try simp only [World.size_alloc, World.size_setCell, World.size_drew]); omega))) | (with_reducible refine Below.drew ?_) | ((with_reducible refine Below.trans ?_ (Below.mono hb3 ?_)); rotate_left; (next => ((try dsimp only); (try simp only [World.size_alloc, World.size_setCell, World.size_drew]); omega))) | ((with_reducible refine Below.trans ?_ (Below.mono hb2 ?_)); rotate_left; (next => ((try dsimp only); (try simp only [World.size_alloc, World.size_setCell, World.size_drew]); omega))) | ((with_reducible refine Below.trans ?_ (Below.mono hb1 ?_)); rotate_left; (next => ((try dsimp only); (try simp only [World.size_alloc, World.size_setCell, World.size_drew]); omega)))))).trans (k4.below (by omega) (fun x hx => by omega)))
  have zw4 : w.heap.size ≤ w4.heap.size := by omega
  have bw4 : w.heap.size ≤ b := by omega
  clear rep4 k4 hb1 hb2 hb3 c1 f1 c2 f2 z1 z2
  go_wp2_with fail
  have W0 := Lib.hid (show InRow ((w4.alloc (.cells #[.int .i64 10] 3)).alloc (.cells #[.int .i64 5, .slice (some ⟨w4.heap.size, 0, none⟩) 1 1] 33)) (some ⟨w4.heap.size, 0, none⟩) 1 1 [10] from ⟨(Row.lit w4 3 [10] 1 rfl).below ((Below.refl _ _).alloc (Nat.le_refl _) _), Nat.le_refl _, by unfold maxLen; omega, fun h => by cases h⟩)
  have K0 := Lib.hid (show ((w4.alloc (.cells #[.int .i64 10] 3)).alloc (.cells #[.int .i64 5, .slice (some ⟨w4.heap.size, 0, none⟩) 1 1] 33)).heap[w4.heap.size + 1]? = some (.cells #[.int .i64 5, .slice (some ⟨w4.heap.size, 0, none⟩) 1 1] 33 (0, 0)) from heap_alloc_at (by simp))
  have R5 := Lib.hid (R4.out.below (((Below.refl w4.heap.size w4).alloc (Nat.le_refl _) (.cells #[.int .i64 10] 3)).alloc (by simp) (.cells #[.int .i64 5, .slice (some ⟨w4.heap.size, 0, none⟩) 1 1] 33)))
  have B5 := Lib.hid ((B4.out.alloc zw4 (.cells #[.int .i64 10] 3)).alloc (by simp; omega) (.cells #[.int .i64 5, .slice (some ⟨w4.heap.size, 0, none⟩) 1 1] 33))
  have szx : ((w4.alloc (.cells #[.int .i64 10] 3)).alloc (.cells #[.int .i64 5, .slice (some ⟨w4.heap.size, 0, none⟩) 1 1] 33)).heap.size = w4.heap.size + 2 := by simp
  have HLt4 := Lib.hid R4.out.lt
  generalize ((w4.alloc (.cells #[.int .i64 10] 3)).alloc (.cells #[.int .i64 5, .slice (some ⟨w4.heap.size, 0, none⟩) 1 1] 33)) = w5 at W0 K0 R5 B5 szx ⊢
  obtain ⟨bw, hbw⟩ : ∃ x, w4.heap.size + 1 = x := ⟨_, rfl⟩
  have HBw := Lib.hid hbw
  rw [hbw] at K0 ⊢
  have hS0 : addS (newP ⟨#[98]⟩ 5 10 0) [] = [⟨⟨#[98]⟩, 0, 0, 0, 5, [10], 0⟩] := rfl
  clear qa qf hbw
  go_loopw [49] (fun i wr => ∃ (k sq : Nat) (nw : Int) (W : List Int) (Aw : Option Addr) (cw : Nat) (f : Nat → Prop), k ≤ n ∧ i = .int .i64 k ∧ NRep wr b (wst k sq nw nw W) f ∧ wr.heap[bw]? = some (.cells #[.int .i64 5, .slice Aw W.length cw] 33 (0, 0)) ∧ InRow wr Aw W.length cw W ∧ ¬ f bw ∧
    (∀ g off, Aw = some ⟨g, off, none⟩ → ¬ f g ∧ g ≠ bw ∧ g < wr.heap.size) ∧ (∀ x, f x → w.heap.size ≤ x) ∧ Below w.heap.size w wr ∧ 1 ≤ W.length ∧ W.length ≤ 5 ∧ Btw 0 16777216 W ∧ 0 ≤ nw ∧ nw ≤ 5000 * k ∧ (sq : Int) = nw / 1000) (fun i _ => n - (intOf i).toNat)
  case atStart =>
    refine ⟨0, 0, 0, [10], some ⟨w4.heap.size, 0, none⟩, 1, _, Nat.zero_le _, rfl, R5.out, K0.out, W0.out, ?_, fun g off e => ?_, ?_, B5.out, by simp, by simp, Btw.one (by omega) (by omega), by omega, by omega, by simp⟩
    · intro hx
      have := HLt4.out bw hx
      have := HBw.out
      omega
    · simp only [Option.some.injEq, Addr.mk.injEq, and_true] at e
      obtain ⟨rfl, rfl⟩ := e
      have := HBw.out
      exact ⟨fun hx => by have := HLt4.out _ hx; omega, by omega, by omega⟩
    · intro x hx
      rcases hx with hx | hx
      · rw [hx]; omega
      · omega
  case round =>
    obtain ⟨k, sq, nw, W, Aw, cw, f, hk, rfl, hrep, hbox, hin, hfb, hfa, hfw, bel, hw1, hw5, hWb, hn0, hn1, hsq⟩ := hrel
    have sz0 := bel.size
    have bwl := lt_of_some' hbox
    by_cases hlt : k < n
    · have hkl : k < len := by omega
      obtain ⟨bkx, offx, hAx, ltx, hrx⟩ := HB.out k hkl
      subst hAx
      replace hrx := (bel.cell (p := ⟨bkx, offx + k, none⟩) ltx).trans hrx
      obtain ⟨x, hvx, hxx⟩ := name_num hrx
      have HX := Lib.hid hvx
      clear hvx hrx
      obtain ⟨y, hyv⟩ : ∃ y, y = within x 5000 := ⟨_, rfl⟩
      have HY := Lib.hid hyv
      have yb := within_bd x (n := 5000) (by omega)
      rw [← hyv] at yb
      obtain ⟨g, hg⟩ : ∃ g, 1 + y = g := ⟨_, rfl⟩
      have v2 : IntKind.i64.wrap (1 + y) = g := by rw [hg]; exact IntWalk.i64_in _ (by omega)
      have gb : 1 ≤ g ∧ g ≤ 5000 := by omega
      obtain ⟨m, hm⟩ : ∃ m : Nat, (nw + g) / 1000 = sq + m := ⟨((nw + g) / 1000 - sq).toNat, by omega⟩
      have HTk := Lib.hid (wtick wr hrep (by omega) ⟨hn0, Int.le_refl _⟩ ⟨by omega, by omega⟩ ⟨by omega, by omega⟩ hsq hm ⟨hw1, hw5⟩ hWb)
      have HEn := Lib.hid (fun w' => encode_ok ⟨#[98]⟩ 0 (k + 1) w' ⟨id98, by omega, by omega, by omega⟩)
      have HHr := Lib.hid (fun f' w' (h : NRep w' b (wst k (sq + m) nw (nw + g) W) f') => whear w' h (by omega) ⟨hn0, by omega⟩ ⟨by omega, by omega⟩ (by omega) (by omega) ⟨hw1, hw5⟩ hWb)
      rw [show nw + g - nw = g by omega] at HHr
      obtain ⟨tx, htx⟩ : ∃ t, mkB (encL (byts ⟨#[98]⟩) 0 (k + 1)) = t := ⟨_, rfl⟩
      rw [htx] at HEn HHr
      rw [show ((k + 1 : Nat) : Int) = (k : Int) + 1 by omega] at HEn
      obtain ⟨W', hW'⟩ : ∃ x, pushd 5 W g = x := ⟨_, rfl⟩
      rw [hW'] at HHr
      have HPs := Lib.hid (fun w' hr => push_ok 5 g Aw W.length cw W w' hr ⟨by omega, by omega⟩ (by omega) hWb ⟨by omega, by omega⟩)
      rw [hW'] at HPs
      have hl1 : 1 ≤ W'.length := by rw [← hW']; unfold pushd; simp
      have hl5 : W'.length ≤ 5 := by
        have := pushd_len (z := 5) (l := W) (v := g) (by omega) (by omega)
        rw [hW'] at this; omega
      have HWb' := Lib.hid (show Btw 0 16777216 W' by rw [← hW']; exact pushd_btw hWb ⟨by omega, by omega⟩)
      have kw : IntKind.i64.wrap ((k : Int) + 1) = (k : Int) + 1 := IntWalk.i64_in _ (by omega)
      have HBox := Lib.hid hbox
      have HIn := Lib.hid hin
      have HFb := Lib.hid hfb
      have HFa := Lib.hid hfa
      have HFw := Lib.hid hfw
      have HBel := Lib.hid bel
      have HM := Lib.hid hm
      clear hyv hg hrep hbox hin hfb hfa hfw bel hWb hm htx hW' hsq
      go_wp2_with fail
      refine (within_any x 5000 y _ (by omega) (by omega) HY.out.symm).mono ?_
      rintro e w' ⟨rfl, rfl⟩
      go_wp2_with fail
      refine HTk.out.mono ?_
      rintro e w6 ⟨v6, A6, c6, rfl, rep6, kept6⟩
      have R6 := Lib.hid rep6
      have K6 := Lib.hid kept6
      have z6 := kept6.size
      clear rep6 kept6
      go_wp2_with fail
      refine (HEn.out _).mono ?_
      rintro e w7 ⟨rfl, hb7⟩
      have z7 := hb7.size
      have R7 := Lib.hid (R6.out.below hb7)
      have HB7 := Lib.hid hb7
      clear hb7
      go_wp2_with fail
      refine (HHr.out _ _ R7.out).mono ?_
      rintro e w8 ⟨A8, c8, m8, rfl, rep8, kept8⟩
      have R8 := Lib.hid rep8
      have K8 := Lib.hid kept8
      have z8 := kept8.size
      have box8 : w8.heap[bw]? = some (.cells #[.int .i64 5, .slice Aw W.length cw] 33 (0, 0)) :=
        (K8.out.block bw (by omega) HFb.out).trans ((HB7.out.block bw (by omega)).trans ((K6.out.block bw bwl HFb.out).trans HBox.out))
      have q0 : w8.cell? ⟨bw, 0, none⟩ = some (.int .i64 5) := by rw [cell_of_row _ _ _ _ _ _ box8]; rfl
      have q1 : w8.cell? ⟨bw, 1, none⟩ = some (.slice Aw W.length cw) := by rw [cell_of_row _ _ _ _ _ _ box8]; rfl
      have HBox8 := Lib.hid box8
      have in8 : InRow w8 Aw W.length cw W := (((HIn.out.kept (fun g off e => (HFa.out g off e).1) K6.out).below HB7.out).kept (fun g off e => (HFa.out g off e).1) K8.out)
      have HIn8 := Lib.hid in8
      have B8 := Lib.hid (((HBel.out.trans (K6.out.below sz0 HFw.out)).trans (HB7.out.mono (by omega))).trans (K8.out.below (by omega) HFw.out))
      have bwl8 : bw < w8.heap.size := by omega
      clear rep8 kept8 box8 in8
      go_wp2_with fail
      refine (HPs.out _ HIn8.out).mono ?_
      rintro e w9 ⟨A9, n9, c9, rfl, own9, hb9⟩
      have z9 := hb9.size
      have hn9 : W'.length = n9 := by have := own9.1; simpa using this
      have box9 : w9.heap[bw]? = some (.cells #[.int .i64 5, .slice Aw W.length cw] 33 (0, 0)) := (hb9.block bw bwl8).trans HBox8.out
      have q0' : w9.cell? ⟨bw, 0, none⟩ = some (.int .i64 5) := by rw [cell_of_row _ _ _ _ _ _ box9]; rfl
      have q1' : w9.cell? ⟨bw, 1, none⟩ = some (.slice Aw W.length cw) := by rw [cell_of_row _ _ _ _ _ _ box9]; rfl
      have qf' : ∀ o, w9.frozen? ⟨bw, o, none⟩ = false := (block_cells box9).2
      have HBox9 := Lib.hid box9
      have O9 := Lib.hid own9
      have HB9 := Lib.hid hb9
      have HN9 := Lib.hid hn9
      clear own9 hb9 box9 q0 q1 hn9
      go_wp2_with fail
      obtain ⟨A9', c9', e9, in9, lo9⟩ := own_inRow O9.out
      obtain ⟨rfl, rfl⟩ : A9 = A9' ∧ c9 = c9' := by simp at e9; exact e9
      have hfn : ¬ ext f w7.heap.size m8 bw := fun hx => by
        rcases hx with hx | hx
        · exact HFb.out hx
        · omega
      have box10 : ((w9.setCell ⟨bw, 0, none⟩ (.int .i64 5)).setCell ⟨bw, 1, none⟩ (.slice A9 n9 c9)).heap[bw]? = some (.cells #[.int .i64 5, .slice A9 n9 c9] 33 (0, 0)) := by
        have := HBox9.out
        simp [World.setCell, Array.getElem?_modify, this]
      have oth : ∀ x, x ≠ bw → ((w9.setCell ⟨bw, 0, none⟩ (.int .i64 5)).setCell ⟨bw, 1, none⟩ (.slice A9 n9 c9)).heap[x]? = w9.heap[x]? := fun x hx => (Below.heap_setCell _ _ _ _ hx).trans (Below.heap_setCell _ _ _ _ hx)
      have rep10 := (R8.out.below HB9.out).same (w' := (w9.setCell ⟨bw, 0, none⟩ (.int .i64 5)).setCell ⟨bw, 1, none⟩ (.slice A9 n9 c9)) ⟨by simp, fun x _ hx => oth x (fun e => hfn (by rw [← e]; exact hx))⟩
      have in10 : InRow ((w9.setCell ⟨bw, 0, none⟩ (.int .i64 5)).setCell ⟨bw, 1, none⟩ (.slice A9 n9 c9)) A9 n9 c9 W' := in9.same (f := fun x => x ≠ bw) (fun g off e => by have := (lo9 g off e).1; omega) ⟨by simp, fun x _ hx => oth x hx⟩
      have B10 : Below w.heap.size w ((w9.setCell ⟨bw, 0, none⟩ (.int .i64 5)).setCell ⟨bw, 1, none⟩ (.slice A9 n9 c9)) := ((B8.out.trans (HB9.out.mono B8.out.size)).setCell (p := ⟨bw, 0, none⟩) (by show w.heap.size ≤ bw; have := HBw.out; omega) _).setCell (p := ⟨bw, 1, none⟩) (by show w.heap.size ≤ bw; have := HBw.out; omega) _
      have e11 : ((sq + m : Nat) : Int) = (nw + g) / 1000 := by rw [HM.out]; omega
      rw [← HN9.out] at box10 in10
      have HF := Lib.hid R8.out.lt
      go_roundw
      case rel =>
        refine ⟨k + 1, sq + m, nw + g, W', A9, c9, ext f w7.heap.size m8, by omega, by go_num, rep10, ?_, ?_, hfn, fun g' off e => ?_, fun x hx => ?_, B10, hl1, hl5, HWb'.out, by omega, by omega, e11⟩
        · rw [HN9.out] at box10 ⊢; exact box10
        · rw [HN9.out] at in10 ⊢; exact in10
        · have := lo9 g' off e
          exact ⟨fun hx => by have := HF.out _ hx; omega, by omega, by simp; omega⟩
        · rcases hx with hx | hx
          · exact HFw.out x hx
          · omega
      case measure => simp [intOf]; omega
    · obtain rfl : n = k := by omega
      obtain ⟨m, hm⟩ : ∃ m : Nat, (nw + late) / 1000 = sq + m := ⟨((nw + late) / 1000 - sq).toNat, by omega⟩
      have HTk := Lib.hid (wtick wr hrep (by omega) ⟨hn0, Int.le_refl _⟩ ⟨by omega, by omega⟩ ⟨by omega, by omega⟩ hsq hm ⟨hw1, hw5⟩ hWb)
      have hok := wst_ok (k := n) (sq := sq + m) (ls := nw) (nw := nw + late) (W := W) (by omega) ⟨hn0, by omega⟩ ⟨by omega, by omega⟩ (by omega) ⟨hw1, hw5⟩ hWb
      have hlevel : levN (wst n (sq + m) nw (nw + late) W) ⟨#[98]⟩ = lv W 2 late := by
        have h1 : has (wst n (sq + m) nw (nw + late) W).peers ⟨#[98]⟩ = true := has_one (⟨⟨#[98]⟩, 0, n, 0, 5, W, nw⟩ : Peer)
        have h2 : pos (wst n (sq + m) nw (nw + late) W).peers ⟨#[98]⟩ = 0 := pos_one (⟨⟨#[98]⟩, 0, n, 0, 5, W, nw⟩ : Peer)
        unfold levN
        rw [if_pos h1, h2]
        show lv W 2 (nw + late - nw) = _
        rw [show nw + late - nw = late by omega]
      obtain ⟨lvl, hlvl⟩ : ∃ x, lv W 2 late = x := ⟨_, rfl⟩
      rw [hlvl] at hlevel
      have HLv := Lib.hid (fun f' w' (h : NRep w' b (wst n (sq + m) nw (nw + late) W) f') => nlevel_ok b _ f' ⟨#[98]⟩ w' h hok lvl 0 hlevel (by rw [show has (wst n (sq + m) nw (nw + late) W).peers ⟨#[98]⟩ = true from has_one (⟨⟨#[98]⟩, 0, n, 0, 5, W, nw⟩ : Peer)]; rfl))
      have HPe := Lib.hid (fun f' w' (h : NRep w' b (wst n (sq + m) nw (nw + late) W) f') => npeers_ok b _ f' w' h hok)
      have HOf := Lib.hid (fun w' (h : Row w' Aw W.length W) => level_lv 5 2 late Aw W.length cw W w' h ⟨by omega, by omega⟩ (by omega) hw1 hWb ⟨by omega, by omega⟩ ⟨by omega, by omega⟩)
      rw [hlvl] at HOf
      have HSw := Lib.hid (fun A c w' (h : Row w' A W.length W) (h' : Row w' Aw W.length W) => sameWin_ok 5 A Aw W.length c cw W w' h h' (by omega))
      have HBox := Lib.hid hbox
      have HIn := Lib.hid hin
      have HFb := Lib.hid hfb
      have HFa := Lib.hid hfa
      have HFw := Lib.hid hfw
      have HBel := Lib.hid bel
      clear hrep hbox hin hfb hfa hfw bel hWb hm hlevel hlvl hok hsq
      go_wp2_with fail
      refine (within_any p 20000 EP _ (by omega) (by omega) HEP.out).mono ?_
      rintro e w' ⟨rfl, rfl⟩
      go_wp2_with fail
      refine HTk.out.mono ?_
      rintro e w6 ⟨v6, A6, c6, rfl, rep6, kept6⟩
      have R6 := Lib.hid rep6
      have K6 := Lib.hid kept6
      have z6 := kept6.size
      have B6 := Lib.hid (HBel.out.trans (kept6.below sz0 HFw.out))
      clear rep6 kept6
      go_wp2_with fail
      refine (HPe.out _ _ R6.out).mono ?_
      rintro e w7 ⟨A7, n7, c7, rfl, T7, hb7⟩
      have hn7 : n7 = 1 := by have := T7.row.1; simpa [wst] using this.symm
      subst hn7
      obtain ⟨g7, o7, rfl, _, _, hp7⟩ := T7.row.at (k := 0) (by omega)
      obtain ⟨_, _, _, _, j4, _, C7, cc7, j5, hin7, _⟩ := hp7
      rw [show o7 + 0 * 7 = o7 by omega] at j4 j5
      have j4' : w7.cell? ⟨g7, o7 + 4, none⟩ = some (.int .i64 5) := j4
      have j5' : w7.cell? ⟨g7, o7 + 5, none⟩ = some (.slice C7 W.length cc7) := j5
      have HI7 := Lib.hid (show Row w7 C7 W.length W from hin7.1)
      have g7l := World.block_lt_of_cell? w7 _ j4'
      have z7 := hb7.size
      have HB7 := Lib.hid hb7
      clear T7 hb7 hin7 j4 j5
      go_wp2_with fail
      refine (HLv.out _ _ (R6.out.below HB7.out)).mono ?_
      rintro e w8 ⟨rfl, hb8⟩
      have z8 := hb8.size
      have HB8 := Lib.hid hb8
      have box8 : w8.heap[bw]? = some (.cells #[.int .i64 5, .slice Aw W.length cw] 33 (0, 0)) :=
        (hb8.block bw (by omega)).trans ((HB7.out.block bw (by omega)).trans ((K6.out.block bw bwl HFb.out).trans HBox.out))
      have q0 : w8.cell? ⟨bw, 0, none⟩ = some (.int .i64 5) := by rw [cell_of_row _ _ _ _ _ _ box8]; rfl
      have q1 : w8.cell? ⟨bw, 1, none⟩ = some (.slice Aw W.length cw) := by rw [cell_of_row _ _ _ _ _ _ box8]; rfl
      have in8 := Lib.hid (((HIn.out.kept (fun g off e => (HFa.out g off e).1) K6.out).below HB7.out).below hb8).1
      have i4 : w8.cell? ⟨g7, o7 + 4, none⟩ = some (.int .i64 5) := (hb8.cell (p := ⟨g7, o7 + 4, none⟩) g7l).trans j4'
      have i5 : w8.cell? ⟨g7, o7 + 5, none⟩ = some (.slice C7 W.length cc7) := (hb8.cell (p := ⟨g7, o7 + 5, none⟩) g7l).trans j5'
      have HI8 := Lib.hid (HI7.out.below hb8)
      have bwl8 : bw < w8.heap.size := by omega
      have g7l8 : g7 < w8.heap.size := by have : g7 < w7.heap.size := g7l; omega
      clear hb8 box8 j4' j5' g7l
      go_wp2_with fail
      refine (HOf.out _ in8.out).mono ?_
      rintro e w9 ⟨rfl, hb9⟩
      have z9 := hb9.size
      have s0 : w9.cell? ⟨bw, 0, none⟩ = some (.int .i64 5) := (hb9.cell (p := ⟨bw, 0, none⟩) bwl8).trans q0
      have s1 : w9.cell? ⟨bw, 1, none⟩ = some (.slice Aw W.length cw) := (hb9.cell (p := ⟨bw, 1, none⟩) bwl8).trans q1
      have s4 : w9.cell? ⟨g7, o7 + 4, none⟩ = some (.int .i64 5) := (hb9.cell (p := ⟨g7, o7 + 4, none⟩) g7l8).trans i4
      have s5 : w9.cell? ⟨g7, o7 + 4 + 1, none⟩ = some (.slice C7 W.length cc7) := (hb9.cell (p := ⟨g7, o7 + 5, none⟩) g7l8).trans i5
      have HI9 := Lib.hid (HI8.out.below hb9)
      have in9 := Lib.hid (in8.out.below hb9)
      have B9 := Lib.hid (((B6.out.trans (HB7.out.mono (by omega))).trans (HB8.out.mono (by omega))).trans (hb9.mono (by omega)))
      have bwl9 : bw < w9.heap.size := by omega
      have g7l9 : g7 < w9.heap.size := by omega
      clear hb9 q0 q1 i4 i5
      go_wp2_with fail
      refine wp_region_quiet_all (Ext _) (by kernel_rfl) (by kernel_rfl) (Ext.drawn _) ?_
      repeat (first | go_big_quiet_skip | go_big_quiet_step (fail) | (refine BigFrame.wpQuiet_want rfl (fun K hK => ?_); apply Exists.intro; refine ⟨fun w2 h2 => ?_, ?_⟩; (next => (have g1 := Below.cells h2.below; have g2 := Below.frozens h2.below; (try simp only [World.size_alloc, World.size_setCell] at g1 g2); first | (go_simp; (go_at_call 36; refine h2.calls (HSw.out _ _ _ (HI9.out.below h2.below) (in9.out.below h2.below)))) | (simp [go_sem, ↓IntWalk.iteOmega, *]; done) | (simp [go_sem, ↓IntWalk.iteOmega, *]; rfl)))); (go_simp; refine hK _ ?_; clear hK K))
      refine wpQuiet_nil ?_
      intro w10 h10
      have hb10 := h10.below
      clear h10
      have z10 := hb10.size
      have c10 := Below.cells hb10
      have f10 := Below.frozens hb10
      try simp only [World.size_alloc, World.size_setCell, World.size_drew] at z10 c10 f10
      go_wp2_with fail
      go_ret
      exact ⟨rfl, B9.out.trans (hb10.mono (by omega))⟩
end Go.Proofs.Ytpomdnglknbanaa
