/-
  (*Node).told: what is told to whom.
-/
import Derived.Test.YtpomdnglknbanaaNr
import Derived.Test.YtpomdnglknbanaaQM
set_option linter.unusedSimpArgs false
set_option linter.unusedVariables false
namespace Go.Proofs.Ytpomdnglknbanaa
open Go Go.RowKit

/-- What is told. -/
structure Note where
  id : ByteArray
  theta : Int
  sus : Bool
def noteC (x : Note) : List Value := [.string x.id, .int .i64 x.theta, .bool x.sus]
def notesC (L : List Note) : List Value := L.flatMap noteC
theorem notesC_snoc (L : List Note) (x : Note) : notesC (L ++ [x]) = notesC L ++ noteC x := by simp [notesC]
theorem notesC_len (L : List Note) : (notesC L).length = L.length * 3 := by
  induction L with
  | nil => rfl
  | cons s L ih =>
    show (noteC s ++ notesC L).length = _
    rw [List.length_append, ih]
    simp [noteC]; omega
def onOf (s : NSt) (u : Sub) : Bool := decide (u.theta ≤ levN s u.id)
def upd (s : NSt) (u : Sub) : Sub := { u with on := onOf s u }
def toldS (s : NSt) : List Sub := s.subs.map (upd s)
def noteOf (s : NSt) (u : Sub) : List Note := if onOf s u = u.on then [] else [⟨u.id, u.theta, onOf s u⟩]
def toldN (s : NSt) : List Note := s.subs.flatMap (noteOf s)
theorem subsC_set (L : List Sub) (k : Nat) (hk : k < L.length) (v : Bool) : (subsC L).set (k * 3 + 2) (.bool v) = subsC (L.set k { L.getD k default with on := v }) := by
  induction L generalizing k with
  | nil => simp at hk
  | cons u L ih =>
    cases k with
    | zero => rfl
    | succ k =>
      show (subC u ++ subsC L).set ((k + 1) * 3 + 2) _ = subC u ++ subsC (L.set k _)
      rw [List.set_append_right _ _ (by simp [subC]; omega), show (k + 1) * 3 + 2 - (subC u).length = k * 3 + 2 by simp [subC]; omega, ih k (by simpa using hk)]
      simp
theorem own_setC {w : World} {base e s n c g : Nat} {xs : List Value} (h : w.ownsRow base e s (.slice (some ⟨g, 0, none⟩) n c) n xs) (j : Nat) (v : Value) : (w.setCell ⟨g, j, none⟩ v).ownsRow base e s (.slice (some ⟨g, 0, none⟩) n c) n (xs.set j v) := by
  have hl := h.1
  rcases h.2 with ⟨h, _⟩ | ⟨g', c', cur, h, hbg, hg, hnc, hcm, hcs, htk⟩
  · cases h
  simp only [Value.slice.injEq, Option.some.injEq, Addr.mk.injEq, and_true, true_and] at h
  obtain ⟨rfl, rfl⟩ := h
  refine ⟨by simpa using hl, .inr ⟨g, c, cur.setIfInBounds j v, rfl, hbg, by simp [World.setCell, Array.getElem?_modify, hg], hnc, hcm, by simpa using hcs, ?_⟩⟩
  rw [Array.toList_setIfInBounds, List.take_set, htk]
/-- The k-th sub, read and written. -/
theorem NRep.sub {w : World} {b : Nat} {s : NSt} {f : Nat → Prop} (h : NRep w b s f) {k : Nat} (hk : k < s.subs.length) :
    ∃ g c, w.cell? ⟨b, 9, none⟩ = some (.slice (some ⟨g, 0, none⟩) s.subs.length c) ∧ w.cell? ⟨g, k * 3, none⟩ = some (.string (s.subs.getD k default).id) ∧ w.cell? ⟨g, k * 3 + 1, none⟩ = some (.int .i64 (s.subs.getD k default).theta) ∧
      w.cell? ⟨g, k * 3 + 2, none⟩ = some (.bool (s.subs.getD k default).on) ∧ (∀ o, w.frozen? ⟨g, o, none⟩ = false) ∧ f g ∧ g < w.heap.size ∧
      ∀ v, NRep (w.setCell ⟨g, k * 3 + 2, none⟩ (.bool v)) b { s with subs := s.subs.set k { s.subs.getD k default with on := v } } f := by
  obtain ⟨A, n, c, S, h1, h2, h3, h4, h5, h6⟩ := h
  have h4' := h4
  rcases h4.2 with ⟨_, h0⟩ | ⟨g, c', cur, rfl, _, hg, hnc, hcm, hcs, htk⟩
  · omega
  obtain ⟨_, _, _, _, _, _, _, _, _, k9⟩ := h1.cells
  have cell : ∀ i, i < 3 → w.cell? ⟨g, k * 3 + i, none⟩ = (subC (s.subs.getD k default))[i]? := fun i hi => by
    have hs := subsC_get s.subs k i hk hi
    have hi' : i < (subC (s.subs.getD k default)).length := by simpa [subC] using hi
    have := h4.cells (g := g) rfl (k * 3 + i) ((subC (s.subs.getD k default))[i]) (by rw [hs, List.getElem?_eq_getElem hi'])
    rw [Go.WideShapes.add_plain, Nat.zero_add] at this
    rw [this, List.getElem?_eq_getElem hi']
  obtain ⟨hfg, hgb⟩ := h5 g rfl
  refine ⟨g, c', k9, cell 0 (by omega), cell 1 (by omega), cell 2 (by omega), (block_cells hg).2, hfg, (Array.getElem?_eq_some_iff.1 hg).1, fun v => ?_⟩
  refine ⟨A, n, c, .slice (some ⟨g, 0, none⟩) s.subs.length c', ?_, h2, ?_, ?_, h5, by simpa using h6⟩
  · exact h1.same (Below.heap_setCell _ _ _ _ (Ne.symm hgb))
  · exact h3.same ⟨by simp, fun x _ hx => Below.heap_setCell _ _ _ _ (fun e => hx.2.2 (by rw [e]; rfl))⟩
  · have := own_setC h4' (k * 3 + 2) (.bool v)
    rw [subsC_set _ _ hk] at this
    simpa using this
theorem info_note : (Try.prog.info? 92).map (fun i => (i.zero, i.size, i.bytes)) = some (some (.agg #[.string ⟨#[]⟩, .int .i64 0, .bool false]), 3, 32) := by kernel_rfl
theorem info_notes : Try.prog.underlying 36 = some (.slice 92) := by kernel_rfl
/-- The subs when k of them have been told. -/
def midS (s : NSt) (k : Nat) : List Sub := (s.subs.take k).map (upd s) ++ s.subs.drop k
theorem midS_len (s : NSt) (k : Nat) : (midS s k).length = s.subs.length := by
  simp [midS]; omega
theorem midS_get (s : NSt) (k : Nat) (hk : k < s.subs.length) : (midS s k).getD k default = s.subs.getD k default := by
  unfold midS
  rw [List.getD_eq_getElem?_getD, List.getElem?_append_right (by simp; omega)]
  simp [List.getD_eq_getElem?_getD, Nat.min_eq_left (Nat.le_of_lt hk)]
theorem midS_set (s : NSt) (k : Nat) (hk : k < s.subs.length) : (midS s k).set k (upd s (s.subs.getD k default)) = midS s (k + 1) := by
  unfold midS
  rw [List.set_append_right _ _ (by simp; omega), List.take_succ_eq_append_getElem hk, List.drop_eq_getElem_cons hk]
  simp only [List.map_append, List.map_cons, List.map_nil, List.length_map, List.length_take, Nat.min_eq_left (Nat.le_of_lt hk), Nat.sub_self, List.set_cons_zero, List.append_assoc, List.cons_append, List.nil_append, List.getD_eq_getElem?_getD, List.getElem?_eq_getElem hk, Option.getD_some]
theorem midS_same (s : NSt) (k : Nat) (hk : k < s.subs.length) (h : onOf s (s.subs.getD k default) = (s.subs.getD k default).on) : midS s k = midS s (k + 1) := by
  rw [← midS_set s k hk]
  have e : upd s (s.subs.getD k default) = (midS s k).getD k default := by
    rw [midS_get s k hk]; unfold upd; rw [h]
  rw [e]
  apply List.ext_getElem?
  intro j
  rw [List.getElem?_set]
  split
  · rename_i hj
    subst hj
    have : k < (midS s k).length := by rw [midS_len]; exact hk
    simp [List.getD_eq_getElem?_getD, this]
  · rfl
theorem told_snoc (s : NSt) (k : Nat) (hk : k < s.subs.length) : (s.subs.take (k + 1)).flatMap (noteOf s) = (s.subs.take k).flatMap (noteOf s) ++ noteOf s (s.subs.getD k default) := by
  rw [List.take_succ_eq_append_getElem hk, List.flatMap_append]
  simp only [List.flatMap_cons, List.flatMap_nil, List.append_nil, List.getD_eq_getElem?_getD, List.getElem?_eq_getElem hk, Option.getD_some]
theorem told_le (s : NSt) : ∀ L : List Sub, (L.flatMap (noteOf s)).length ≤ L.length
  | [] => by simp
  | u :: L => by
    have := told_le s L
    have h : (noteOf s u).length ≤ 1 := by unfold noteOf; split <;> simp
    rw [List.flatMap_cons, List.length_append, List.length_cons]; omega
theorem NOK.mid {s : NSt} (h : NOK s) (k : Nat) : NOK { s with subs := midS s k } := ⟨h.id, h.inc, h.every, h.cap, h.least, h.now, h.seq, h.drops, h.tab, h.wins, by rw [midS_len]; exact h.subs⟩
set_option maxRecDepth 100000 in
set_option maxHeartbeats 16000000 in
theorem told_ok (b : Nat) (s : NSt) (f : Nat → Prop) (w : World) (h : NRep w b s f) (ok : NOK s) :
    Calls Try.prog 91 #[.pointer (some ⟨b, 0, none⟩)] w fun e w' => ∃ A' c', e = .returned (.slice A' (toldN s).length c') ∧ w'.ownsRow w.heap.size 92 3 (.slice A' (toldN s).length c') (toldN s).length (notesC (toldN s)) ∧ NRep w' b { s with subs := toldS s } f ∧ Kept f w w' := by
  obtain ⟨A, pn, pc, S, hnd, _, _, hsub, _, hfl⟩ := h
  have hform := own_form hsub
  obtain ⟨SA, Sc, rfl, _, _, _⟩ := hform
  obtain ⟨_, _, _, _, _, _, _, _, _, k9⟩ := hnd.cells
  have hbl := hnd.lt
  have h8 := ok.subs
  have HFl := Lib.hid hfl
  have HRep := Lib.hid (show NRep w b s f from ⟨A, pn, pc, .slice SA s.subs.length Sc, hnd, ‹_›, ‹_›, hsub, ‹_›, hfl⟩)
  obtain ⟨n, hn⟩ : ∃ n, s.subs.length = n := ⟨_, rfl⟩
  rw [hn] at k9
  have HN := Lib.hid hn
  have HOk := Lib.hid (fun k => ok.mid k)
  obtain ⟨i0, hi, hz0, hz1, hz2⟩ := info_parts info_note
  clear hnd hsub hfl hn ok
  go_enter Try.func91, Try.ntmps91
  go_wp2_with fail
  go_loopw [3, 14] (fun v i wr => ∃ (k m : Nat) (A' : Option Addr) (c' : Nat), k ≤ n ∧ i = .int .i64 k ∧ m = ((s.subs.take k).flatMap (noteOf s)).length ∧ v = .slice A' m c' ∧ wr.ownsRow w.heap.size 92 3 (.slice A' m c') m (notesC ((s.subs.take k).flatMap (noteOf s))) ∧ NRep wr b { s with subs := midS s k } f ∧ Kept f w wr) (fun _ i _ => n - (intOf i).toNat)
  case atStart => exact ⟨0, 0, none, 0, Nat.zero_le _, rfl, rfl, rfl, World.ownsRow_nil _ _ _ _, by have := HRep.out; simpa [midS] using this, Kept.refl _ _⟩
  case round =>
    obtain ⟨k, m, A', c', hk, rfl, hm, rfl, hown, hrep, hkept⟩ := hrel
    have sz0 := hkept.size
    by_cases hlt : k < n
    · have hks : k < s.subs.length := by have := HN.out; omega
      obtain ⟨g, c, m9, j0, j1, j2, jf, fg, gl, hset⟩ := hrep.sub (k := k) (by rw [midS_len]; exact hks)
      rw [show ({ s with subs := midS s k } : NSt).subs = midS s k from rfl, midS_get s k hks] at j0 j1 j2 hset
      rw [show ({ s with subs := midS s k } : NSt).subs.length = n by rw [midS_len, HN.out]] at m9
      obtain ⟨u, hu⟩ : ∃ u, s.subs.getD k default = u := ⟨_, rfl⟩
      rw [hu] at j0 j1 j2 hset
      have hbl2 : b < wr.heap.size := by omega
      obtain ⟨lvl, hlvl⟩ : ∃ x, levN s u.id = x := ⟨_, rfl⟩
      have HLv := Lib.hid (nlevel_ok b _ f u.id wr hrep (HOk.out k) lvl _ hlvl rfl)
      obtain ⟨e0, he0⟩ : ∃ e, (if has ({ s with subs := midS s k } : NSt).peers u.id = true then (0 : Int) else 4) = e := ⟨_, rfl⟩
      rw [he0] at HLv
      have hon : onOf s u = decide (u.theta ≤ lvl) := by unfold onOf; rw [hlvl]
      have hsn := told_snoc s k hks
      rw [hu] at hsn
      have hm8 : m ≤ 8 := by have := told_le s (s.subs.take k); rw [← hm, List.length_take] at this; omega
      obtain ⟨bn, hbn⟩ : ∃ x, decide (u.theta ≤ lvl) = x := ⟨_, rfl⟩
      rw [hbn] at hon
      obtain ⟨o, ho⟩ : ∃ x, u.on = x := ⟨_, rfl⟩
      rw [ho] at j2
      have HO := Lib.hid hown
      have HRp := Lib.hid hrep
      have HKp := Lib.hid hkept
      have HSt := Lib.hid hset
      have HFl2 := Lib.hid (fun x hx => (HFl.out x hx))
      clear he0 hlvl hown hrep hkept hset
      by_cases hsame : bn = o
      · subst hsame
        have hno : noteOf s u = [] := by unfold noteOf; rw [hon, ho]; simp
        rw [hno, List.append_nil] at hsn
        have HSn := Lib.hid hsn
        have HMs := Lib.hid (midS_same s k hks (by rw [hu, hon, ho]))
        clear hno hsn hon ho hu
        have hm' := Lib.hid hm
        clear hm
        cases bn
        all_goals
          go_wp2_with fail
          refine HLv.out.mono ?_
          rintro e w2 ⟨rfl, hb2⟩
          have z2 := hb2.size
          have j22 := (hb2.cell (p := ⟨g, k * 3 + 2, none⟩) gl).trans j2
          have j12 := (hb2.cell (p := ⟨g, k * 3 + 1, none⟩) gl).trans j1
          have O2 := Lib.hid (own_below HO.out hb2)
          have R2 := Lib.hid (HRp.out.below hb2)
          have K2 := Lib.hid (HKp.out.trans (Kept.of_below (f := f) hb2) (fun x _ hx => hx))
          go_wp2_with fail
          go_roundw
          case rel => exact ⟨k + 1, m, A', c', by omega, by go_num, by rw [HSn.out]; exact hm'.out, rfl, by rw [HSn.out]; exact O2.out, by rw [← HMs.out]; exact R2.out, K2.out⟩
          case measure => simp [intOf]; omega
      · cases bn <;> cases o
        · exact absurd rfl hsame
        · have hno : noteOf s u = [⟨u.id, u.theta, false⟩] := by unfold noteOf; rw [hon, ho, if_neg (by simp)]
          rw [hno] at hsn
          have HSn := Lib.hid hsn
          have HMs := Lib.hid (show (midS s k).set k { u with on := false } = midS s (k + 1) by rw [← midS_set s k hks, hu]; unfold upd; rw [hon])
          have HU := Lib.hid hu
          have hb3 : lvl < u.theta := by simpa using hbn
          have hb4 : decide (lvl < u.theta) = true := by simp; omega
          have hm' := Lib.hid hm
          clear hno hsn hon ho hu hm
          have hlg : g < w.heap.size := HFl.out g fg
          go_wp2_with fail
          refine HLv.out.mono ?_
          rintro e w2 ⟨rfl, hb2⟩
          have z2 := hb2.size
          have j22 := (hb2.cell (p := ⟨g, k * 3 + 2, none⟩) gl).trans j2
          have j12 := (hb2.cell (p := ⟨g, k * 3 + 1, none⟩) gl).trans j1
          have j02 := (hb2.cell (p := ⟨g, k * 3, none⟩) gl).trans j0
          have jf2 : ∀ o, w2.frozen? ⟨g, o, none⟩ = false := fun o => (World.frozen?_of_block (hb2.block g gl)).trans (jf o)
          have O2 := Lib.hid (own_below HO.out hb2)
          have R2 := HRp.out.below hb2
          obtain ⟨g', c2, m92, x1, x2, x3, x4, x5, x6, hset2⟩ := R2.sub (k := k) (by rw [midS_len]; exact hks)
          have eg : g' = g := by
            have := (hb2.cell (p := ⟨b, 9, none⟩) hbl2).trans m9
            rw [m92] at this
            simp only [Option.some.injEq, Value.slice.injEq, Addr.mk.injEq, and_true] at this
            exact this.1
          subst eg
          have R3 := Lib.hid (show NRep (w2.setCell ⟨g', k * 3 + 2, none⟩ (.bool false)) b { s with subs := midS s (k + 1) } f by
            have h := hset2 false
            rw [show ({ s with subs := midS s k } : NSt).subs = midS s k from rfl, midS_get s k hks] at h
            rw [HU.out, HMs.out] at h
            exact h)
          have O3 := Lib.hid (own_set O2.out (b := g') hlg (k * 3 + 2) (.bool false))
          have K2 := Lib.hid (HKp.out.trans (Kept.of_below (f := f) hb2) (fun x _ hx => hx))
          have j03 : (w2.setCell ⟨g', k * 3 + 2, none⟩ (.bool false)).cell? ⟨g', k * 3, none⟩ = some (.string u.id) := (World.cell?_setCell_other _ _ _ _ (fun e => by simp at e)).trans j02
          have j13 : (w2.setCell ⟨g', k * 3 + 2, none⟩ (.bool false)).cell? ⟨g', k * 3 + 1, none⟩ = some (.int .i64 u.theta) := (World.cell?_setCell_other _ _ _ _ (fun e => by simp at e)).trans j12
          have zz3 : (w2.setCell ⟨g', k * 3 + 2, none⟩ (.bool false)).heap.size = w2.heap.size := by simp
          have gl2 : g' < w2.heap.size := by omega
          clear hb2 R2 m92 hset2 j0 j1 j2 jf x1 x2 x3 x4 x5 x6
          have KEPT3 := Lib.hid (show Kept f w (w2.setCell ⟨g', k * 3 + 2, none⟩ (.bool false)) from ⟨K2.out.os, K2.out.tape, K2.out.output, by simp; omega, fun x hx hfx => (Below.heap_setCell _ _ _ _ (fun e => hfx (by rw [e]; exact fg))).trans (K2.out.block x hx hfx)⟩)
          go_wp2_with fail
          generalize w2.setCell ⟨g', k * 3 + 2, none⟩ (.bool false) = w3 at R3 O3 j03 j13 zz3 KEPT3 ⊢
          have K3 := Lib.hid (show Kept f w w3 from KEPT3.out)
          have gl3 : g' < w3.heap.size := by omega
          have kk : w3.drew.cell? ⟨g', k * 3, none⟩ = some (.string u.id) ∧ w3.drew.cell? ⟨g', k * 3 + 1, none⟩ = some (.int .i64 u.theta) := ⟨j03, j13⟩
          have M3 := Lib.hid kk
          have z3' : w.heap.size ≤ w3.heap.size := by omega
          clear zz3 z2 j02 j12 j22 jf2 j03 j13 sz0
          refine wp_region_M (fun w' => w'.cell? ⟨g', k * 3, none⟩ = some (.string u.id) ∧ w'.cell? ⟨g', k * 3 + 1, none⟩ = some (.int .i64 u.theta)) (fun j => decide (12 ≤ j)) 14 rfl (by kernel_rfl) ?_
          (refine wpAnyM_take (i := 0) (v := ?_) rfl (by kernel_rfl) (by kernel_rfl) (by kernel_rfl) (by kernel_rfl) (fun _ _ _ h => h) (Or.inl ⟨by rfl, ?_⟩) kk ?_; (rotate_left; (intro w hSw; (try dsimp only at hSw); go_simp; try with_reducible rfl)); (try simp only [Act.put, List.setIfInBounds_toArray, List.set_cons_zero, List.set_cons_succ]))
          (refine wpAnyM_take (i := 1) (v := ?_) rfl (by kernel_rfl) (by kernel_rfl) (by kernel_rfl) (by kernel_rfl) (fun _ _ _ h => h) (Or.inl ⟨by rfl, ?_⟩) kk ?_; (rotate_left; (intro w hSw; (try dsimp only at hSw); go_simp; try with_reducible rfl)); (try simp only [Act.put, List.setIfInBounds_toArray, List.set_cons_zero, List.set_cons_succ]))
          (refine wpAnyM_take (i := 2) (v := ?_) rfl (by kernel_rfl) (by kernel_rfl) (by kernel_rfl) (by kernel_rfl) (fun _ _ _ h => h) (Or.inl ⟨by rfl, ?_⟩) kk ?_; (rotate_left; (intro w hSw; (try dsimp only at hSw); go_simp; try with_reducible rfl)); (try simp only [Act.put, List.setIfInBounds_toArray, List.set_cons_zero, List.set_cons_succ]))
          (refine wpAnyM_take (i := 3) (v := ?_) rfl (by kernel_rfl) (by kernel_rfl) (by kernel_rfl) (by kernel_rfl) (fun _ _ _ h => h) (Or.inl ⟨by rfl, ?_⟩) kk ?_; (rotate_left; (intro w hSw; (try dsimp only at hSw); go_simp; try with_reducible rfl)); (try simp only [Act.put, List.setIfInBounds_toArray, List.set_cons_zero, List.set_cons_succ]))
          (refine wpAnyM_take (i := 4) (v := ?_) rfl (by kernel_rfl) (by kernel_rfl) (by kernel_rfl) (by kernel_rfl) (fun _ _ _ h => h) (Or.inl ⟨by rfl, ?_⟩) kk ?_; (rotate_left; (intro w hSw; (try dsimp only at hSw); go_simp; try with_reducible rfl)); (try simp only [Act.put, List.setIfInBounds_toArray, List.set_cons_zero, List.set_cons_succ]))
          (refine wpAnyM_take (i := 5) (v := ?_) rfl (by kernel_rfl) (by kernel_rfl) (by kernel_rfl) (by kernel_rfl) (fun _ _ _ h => h) (Or.inl ⟨by rfl, ?_⟩) kk ?_; (rotate_left; (intro w hSw; (try dsimp only at hSw); go_simp; try with_reducible rfl)); (try simp only [Act.put, List.setIfInBounds_toArray, List.set_cons_zero, List.set_cons_succ]))
          (refine wpAnyM_take (i := 6) (v := ?_) rfl (by kernel_rfl) (by kernel_rfl) (by kernel_rfl) (by kernel_rfl) (fun _ _ _ h => h) (Or.inl ⟨by rfl, ?_⟩) kk ?_; (rotate_left; (intro w hSw; (try dsimp only at hSw); go_simp; try with_reducible rfl)); (try simp only [Act.put, List.setIfInBounds_toArray, List.set_cons_zero, List.set_cons_succ]))
          (refine wpAnyM_take (i := 7) (v := ?_) rfl (by kernel_rfl) (by kernel_rfl) (by kernel_rfl) (by kernel_rfl) (fun _ _ _ h => h) (Or.inl ⟨by rfl, ?_⟩) kk ?_; (rotate_left; (intro w hSw; (try dsimp only at hSw); go_simp; try with_reducible rfl)); (try simp only [Act.put, List.setIfInBounds_toArray, List.set_cons_zero, List.set_cons_succ]))
          (refine wpAnyM_take (i := 8) (v := ?_) rfl (by kernel_rfl) (by kernel_rfl) (by kernel_rfl) (by kernel_rfl) (fun _ _ _ h => h) (Or.inl ⟨by rfl, ?_⟩) kk ?_; (rotate_left; (intro w hSw; (try dsimp only at hSw); go_simp; try with_reducible rfl)); (try simp only [Act.put, List.setIfInBounds_toArray, List.set_cons_zero, List.set_cons_succ]))
          (refine wpAnyM_take (i := 9) (v := ?_) rfl (by kernel_rfl) (by kernel_rfl) (by kernel_rfl) (by kernel_rfl) (fun _ _ _ h => h) (Or.inl ⟨by rfl, ?_⟩) kk ?_; (rotate_left; (intro w hSw; (try dsimp only at hSw); go_simp; try with_reducible rfl)); (try simp only [Act.put, List.setIfInBounds_toArray, List.set_cons_zero, List.set_cons_succ]))
          (refine wpAnyM_take (i := 10) (v := ?_) rfl (by kernel_rfl) (by kernel_rfl) (by kernel_rfl) (by kernel_rfl) (fun _ _ _ h => h) (Or.inl ⟨by rfl, ?_⟩) kk ?_; (rotate_left; (intro w hSw; (try dsimp only at hSw); go_simp; try with_reducible rfl)); (try simp only [Act.put, List.setIfInBounds_toArray, List.set_cons_zero, List.set_cons_succ]))
          refine wpAnyM_one (i := 11) (by kernel_rfl) rfl (fun K hK => ?_)
          go_simp
          have al : ∀ p, p.block < w3.heap.size → ((w3.alloc (.cells #[.string u.id, .int .i64 u.theta, .bool false] 92)).drew).cell? p = w3.cell? p := fun p hp => World.cell?_alloc_lt _ _ _ hp
          refine hK _ _ (fun _ => ⟨(al _ gl3).trans M3.out.1, (al _ gl3).trans M3.out.2⟩) ?_
          clear hK K
          refine wpAnyM_one (i := 12) (by kernel_rfl) rfl (fun K hK => ?_)
          refine step_append_lies _ (by rfl) _ _ _ (by rfl) w.heap.size 92 i0 _ 3 32 info_notes hi hz0 hz1 hz2 rfl (by omega) _ m (notesC ((s.subs.take k).flatMap (noteOf s))) (by rfl) ((O3.out.alloc _).drew)
            ⟨w3.heap.size, 0, none⟩ 1 1 (noteC ⟨u.id, u.theta, false⟩) (by rfl) (by rfl) (World.news_of_block (cs := #[.string u.id, .int .i64 u.theta, .bool false]) (t := 92) (fr := (0, 0)) (heap_alloc_new w3 _)) (by intro x hx; simp [noteC] at hx; rcases hx with rfl | rfl | rfl <;> rfl)
            (by omega) (by unfold maxLen; omega) (by omega) (by simp; omega) (w3.heap.size + 1) (by simp) ?_
          intro gg cap' wq ownq grq atq ltq
          have hnb : ∀ x, x < w.heap.size → wq.heap[x]? = w3.heap[x]? := fun x hx => (grq.block x (by simp; omega) (fun e => by have := (O3.out.lt _ e.symm).1; omega)).trans (Below.heap_alloc w3 _ x (by omega))
          have OQ := Lib.hid (show wq.ownsRow w.heap.size 92 3 (.slice (some ⟨gg, 0, none⟩) (m + 1) cap') (m + 1) (notesC ((s.subs.take (k + 1)).flatMap (noteOf s))) by rw [HSn.out, notesC_snoc]; exact ownq)
          have zq := grq.size
          simp only [World.size_alloc, World.size_drew] at zq
          have RQ := Lib.hid (R3.out.same (w' := wq) ⟨by omega, fun x _ hfx => hnb x (HFl.out x hfx)⟩)
          have KQ := Lib.hid (show Kept f w wq from ⟨grq.os.trans K3.out.os, grq.tape.trans K3.out.tape, grq.output.trans K3.out.output, by omega, fun x hx hfx => (hnb x hx).trans (K3.out.block x hx hfx)⟩)
          clear ownq grq atq hnb al kk
          refine hK _ _ (fun h => by cases h) ?_
          clear hK K
          refine wpAnyM_one (i := 13) (by kernel_rfl) rfl (fun K hK => ?_)
          go_simp
          refine hK _ _ (fun h => by cases h) ?_
          clear hK K
          refine wpAnyM_done (by kernel_rfl) ?_ _
          go_wp2_with fail
          go_roundw
          case rel => exact ⟨k + 1, m + 1, some ⟨gg, 0, none⟩, cap', by omega, by go_num, by rw [HSn.out, List.length_append, hm'.out]; rfl, rfl, OQ.out, RQ.out, KQ.out⟩
          case measure => simp [intOf]; omega
        · have hno : noteOf s u = [⟨u.id, u.theta, true⟩] := by unfold noteOf; rw [hon, ho, if_neg (by simp)]
          rw [hno] at hsn
          have HSn := Lib.hid hsn
          have HMs := Lib.hid (show (midS s k).set k { u with on := true } = midS s (k + 1) by rw [← midS_set s k hks, hu]; unfold upd; rw [hon])
          have HU := Lib.hid hu
          have hb3 : u.theta ≤ lvl := by simpa using hbn
          have hm' := Lib.hid hm
          clear hno hsn hon ho hu hm
          have hlg : g < w.heap.size := HFl.out g fg
          go_wp2_with fail
          refine HLv.out.mono ?_
          rintro e w2 ⟨rfl, hb2⟩
          have z2 := hb2.size
          have j22 := (hb2.cell (p := ⟨g, k * 3 + 2, none⟩) gl).trans j2
          have j12 := (hb2.cell (p := ⟨g, k * 3 + 1, none⟩) gl).trans j1
          have j02 := (hb2.cell (p := ⟨g, k * 3, none⟩) gl).trans j0
          have jf2 : ∀ o, w2.frozen? ⟨g, o, none⟩ = false := fun o => (World.frozen?_of_block (hb2.block g gl)).trans (jf o)
          have O2 := Lib.hid (own_below HO.out hb2)
          have R2 := HRp.out.below hb2
          obtain ⟨g', c2, m92, x1, x2, x3, x4, x5, x6, hset2⟩ := R2.sub (k := k) (by rw [midS_len]; exact hks)
          have eg : g' = g := by
            have := (hb2.cell (p := ⟨b, 9, none⟩) hbl2).trans m9
            rw [m92] at this
            simp only [Option.some.injEq, Value.slice.injEq, Addr.mk.injEq, and_true] at this
            exact this.1
          subst eg
          have R3 := Lib.hid (show NRep (w2.setCell ⟨g', k * 3 + 2, none⟩ (.bool true)) b { s with subs := midS s (k + 1) } f by
            have h := hset2 true
            rw [show ({ s with subs := midS s k } : NSt).subs = midS s k from rfl, midS_get s k hks] at h
            rw [HU.out, HMs.out] at h
            exact h)
          have O3 := Lib.hid (own_set O2.out (b := g') hlg (k * 3 + 2) (.bool true))
          have K2 := Lib.hid (HKp.out.trans (Kept.of_below (f := f) hb2) (fun x _ hx => hx))
          have j03 : (w2.setCell ⟨g', k * 3 + 2, none⟩ (.bool true)).cell? ⟨g', k * 3, none⟩ = some (.string u.id) := (World.cell?_setCell_other _ _ _ _ (fun e => by simp at e)).trans j02
          have j13 : (w2.setCell ⟨g', k * 3 + 2, none⟩ (.bool true)).cell? ⟨g', k * 3 + 1, none⟩ = some (.int .i64 u.theta) := (World.cell?_setCell_other _ _ _ _ (fun e => by simp at e)).trans j12
          have zz3 : (w2.setCell ⟨g', k * 3 + 2, none⟩ (.bool true)).heap.size = w2.heap.size := by simp
          have gl2 : g' < w2.heap.size := by omega
          clear hb2 R2 m92 hset2 j0 j1 j2 jf x1 x2 x3 x4 x5 x6
          have KEPT3 := Lib.hid (show Kept f w (w2.setCell ⟨g', k * 3 + 2, none⟩ (.bool true)) from ⟨K2.out.os, K2.out.tape, K2.out.output, by simp; omega, fun x hx hfx => (Below.heap_setCell _ _ _ _ (fun e => hfx (by rw [e]; exact fg))).trans (K2.out.block x hx hfx)⟩)
          go_wp2_with fail
          generalize w2.setCell ⟨g', k * 3 + 2, none⟩ (.bool true) = w3 at R3 O3 j03 j13 zz3 KEPT3 ⊢
          have K3 := Lib.hid (show Kept f w w3 from KEPT3.out)
          have gl3 : g' < w3.heap.size := by omega
          have kk : w3.drew.cell? ⟨g', k * 3, none⟩ = some (.string u.id) ∧ w3.drew.cell? ⟨g', k * 3 + 1, none⟩ = some (.int .i64 u.theta) := ⟨j03, j13⟩
          have M3 := Lib.hid kk
          have z3' : w.heap.size ≤ w3.heap.size := by omega
          clear zz3 z2 j02 j12 j22 jf2 j03 j13 sz0
          refine wp_region_M (fun w' => w'.cell? ⟨g', k * 3, none⟩ = some (.string u.id) ∧ w'.cell? ⟨g', k * 3 + 1, none⟩ = some (.int .i64 u.theta)) (fun j => decide (12 ≤ j)) 14 rfl (by kernel_rfl) ?_
          (refine wpAnyM_take (i := 0) (v := ?_) rfl (by kernel_rfl) (by kernel_rfl) (by kernel_rfl) (by kernel_rfl) (fun _ _ _ h => h) (Or.inl ⟨by rfl, ?_⟩) kk ?_; (rotate_left; (intro w hSw; (try dsimp only at hSw); go_simp; try with_reducible rfl)); (try simp only [Act.put, List.setIfInBounds_toArray, List.set_cons_zero, List.set_cons_succ]))
          (refine wpAnyM_take (i := 1) (v := ?_) rfl (by kernel_rfl) (by kernel_rfl) (by kernel_rfl) (by kernel_rfl) (fun _ _ _ h => h) (Or.inl ⟨by rfl, ?_⟩) kk ?_; (rotate_left; (intro w hSw; (try dsimp only at hSw); go_simp; try with_reducible rfl)); (try simp only [Act.put, List.setIfInBounds_toArray, List.set_cons_zero, List.set_cons_succ]))
          (refine wpAnyM_take (i := 2) (v := ?_) rfl (by kernel_rfl) (by kernel_rfl) (by kernel_rfl) (by kernel_rfl) (fun _ _ _ h => h) (Or.inl ⟨by rfl, ?_⟩) kk ?_; (rotate_left; (intro w hSw; (try dsimp only at hSw); go_simp; try with_reducible rfl)); (try simp only [Act.put, List.setIfInBounds_toArray, List.set_cons_zero, List.set_cons_succ]))
          (refine wpAnyM_take (i := 3) (v := ?_) rfl (by kernel_rfl) (by kernel_rfl) (by kernel_rfl) (by kernel_rfl) (fun _ _ _ h => h) (Or.inl ⟨by rfl, ?_⟩) kk ?_; (rotate_left; (intro w hSw; (try dsimp only at hSw); go_simp; try with_reducible rfl)); (try simp only [Act.put, List.setIfInBounds_toArray, List.set_cons_zero, List.set_cons_succ]))
          (refine wpAnyM_take (i := 4) (v := ?_) rfl (by kernel_rfl) (by kernel_rfl) (by kernel_rfl) (by kernel_rfl) (fun _ _ _ h => h) (Or.inl ⟨by rfl, ?_⟩) kk ?_; (rotate_left; (intro w hSw; (try dsimp only at hSw); go_simp; try with_reducible rfl)); (try simp only [Act.put, List.setIfInBounds_toArray, List.set_cons_zero, List.set_cons_succ]))
          (refine wpAnyM_take (i := 5) (v := ?_) rfl (by kernel_rfl) (by kernel_rfl) (by kernel_rfl) (by kernel_rfl) (fun _ _ _ h => h) (Or.inl ⟨by rfl, ?_⟩) kk ?_; (rotate_left; (intro w hSw; (try dsimp only at hSw); go_simp; try with_reducible rfl)); (try simp only [Act.put, List.setIfInBounds_toArray, List.set_cons_zero, List.set_cons_succ]))
          (refine wpAnyM_take (i := 6) (v := ?_) rfl (by kernel_rfl) (by kernel_rfl) (by kernel_rfl) (by kernel_rfl) (fun _ _ _ h => h) (Or.inl ⟨by rfl, ?_⟩) kk ?_; (rotate_left; (intro w hSw; (try dsimp only at hSw); go_simp; try with_reducible rfl)); (try simp only [Act.put, List.setIfInBounds_toArray, List.set_cons_zero, List.set_cons_succ]))
          (refine wpAnyM_take (i := 7) (v := ?_) rfl (by kernel_rfl) (by kernel_rfl) (by kernel_rfl) (by kernel_rfl) (fun _ _ _ h => h) (Or.inl ⟨by rfl, ?_⟩) kk ?_; (rotate_left; (intro w hSw; (try dsimp only at hSw); go_simp; try with_reducible rfl)); (try simp only [Act.put, List.setIfInBounds_toArray, List.set_cons_zero, List.set_cons_succ]))
          (refine wpAnyM_take (i := 8) (v := ?_) rfl (by kernel_rfl) (by kernel_rfl) (by kernel_rfl) (by kernel_rfl) (fun _ _ _ h => h) (Or.inl ⟨by rfl, ?_⟩) kk ?_; (rotate_left; (intro w hSw; (try dsimp only at hSw); go_simp; try with_reducible rfl)); (try simp only [Act.put, List.setIfInBounds_toArray, List.set_cons_zero, List.set_cons_succ]))
          (refine wpAnyM_take (i := 9) (v := ?_) rfl (by kernel_rfl) (by kernel_rfl) (by kernel_rfl) (by kernel_rfl) (fun _ _ _ h => h) (Or.inl ⟨by rfl, ?_⟩) kk ?_; (rotate_left; (intro w hSw; (try dsimp only at hSw); go_simp; try with_reducible rfl)); (try simp only [Act.put, List.setIfInBounds_toArray, List.set_cons_zero, List.set_cons_succ]))
          (refine wpAnyM_take (i := 10) (v := ?_) rfl (by kernel_rfl) (by kernel_rfl) (by kernel_rfl) (by kernel_rfl) (fun _ _ _ h => h) (Or.inl ⟨by rfl, ?_⟩) kk ?_; (rotate_left; (intro w hSw; (try dsimp only at hSw); go_simp; try with_reducible rfl)); (try simp only [Act.put, List.setIfInBounds_toArray, List.set_cons_zero, List.set_cons_succ]))
          refine wpAnyM_one (i := 11) (by kernel_rfl) rfl (fun K hK => ?_)
          go_simp
          have al : ∀ p, p.block < w3.heap.size → ((w3.alloc (.cells #[.string u.id, .int .i64 u.theta, .bool true] 92)).drew).cell? p = w3.cell? p := fun p hp => World.cell?_alloc_lt _ _ _ hp
          refine hK _ _ (fun _ => ⟨(al _ gl3).trans M3.out.1, (al _ gl3).trans M3.out.2⟩) ?_
          clear hK K
          refine wpAnyM_one (i := 12) (by kernel_rfl) rfl (fun K hK => ?_)
          refine step_append_lies _ (by rfl) _ _ _ (by rfl) w.heap.size 92 i0 _ 3 32 info_notes hi hz0 hz1 hz2 rfl (by omega) _ m (notesC ((s.subs.take k).flatMap (noteOf s))) (by rfl) ((O3.out.alloc _).drew)
            ⟨w3.heap.size, 0, none⟩ 1 1 (noteC ⟨u.id, u.theta, true⟩) (by rfl) (by rfl) (World.news_of_block (cs := #[.string u.id, .int .i64 u.theta, .bool true]) (t := 92) (fr := (0, 0)) (heap_alloc_new w3 _)) (by intro x hx; simp [noteC] at hx; rcases hx with rfl | rfl | rfl <;> rfl)
            (by omega) (by unfold maxLen; omega) (by omega) (by simp; omega) (w3.heap.size + 1) (by simp) ?_
          intro gg cap' wq ownq grq atq ltq
          have hnb : ∀ x, x < w.heap.size → wq.heap[x]? = w3.heap[x]? := fun x hx => (grq.block x (by simp; omega) (fun e => by have := (O3.out.lt _ e.symm).1; omega)).trans (Below.heap_alloc w3 _ x (by omega))
          have OQ := Lib.hid (show wq.ownsRow w.heap.size 92 3 (.slice (some ⟨gg, 0, none⟩) (m + 1) cap') (m + 1) (notesC ((s.subs.take (k + 1)).flatMap (noteOf s))) by rw [HSn.out, notesC_snoc]; exact ownq)
          have zq := grq.size
          simp only [World.size_alloc, World.size_drew] at zq
          have RQ := Lib.hid (R3.out.same (w' := wq) ⟨by omega, fun x _ hfx => hnb x (HFl.out x hfx)⟩)
          have KQ := Lib.hid (show Kept f w wq from ⟨grq.os.trans K3.out.os, grq.tape.trans K3.out.tape, grq.output.trans K3.out.output, by omega, fun x hx hfx => (hnb x hx).trans (K3.out.block x hx hfx)⟩)
          clear ownq grq atq hnb al kk
          refine hK _ _ (fun h => by cases h) ?_
          clear hK K
          refine wpAnyM_one (i := 13) (by kernel_rfl) rfl (fun K hK => ?_)
          go_simp
          refine hK _ _ (fun h => by cases h) ?_
          clear hK K
          refine wpAnyM_done (by kernel_rfl) ?_ _
          go_wp2_with fail
          go_roundw
          case rel => exact ⟨k + 1, m + 1, some ⟨gg, 0, none⟩, cap', by omega, by go_num, by rw [HSn.out, List.length_append, hm'.out]; rfl, rfl, OQ.out, RQ.out, KQ.out⟩
          case measure => simp [intOf]; omega
        · exact absurd rfl hsame
    · obtain rfl : n = k := by omega
      have hns : n = s.subs.length := HN.out.symm
      have htk : (s.subs.take n).flatMap (noteOf s) = toldN s := by rw [List.take_of_length_le (by omega)]; rfl
      have hms : midS s n = toldS s := by unfold midS toldS; rw [List.take_of_length_le (by omega), List.drop_of_length_le (by omega), List.append_nil]
      rw [htk] at hm hown
      rw [hms] at hrep
      subst hm
      have HO := Lib.hid hown
      have HRp := Lib.hid hrep
      have HKp := Lib.hid hkept
      clear hown hrep hkept hns htk hms
      go_wp2_with fail
      go_ret
      exact ⟨A', c', rfl, HO.out, HRp.out, HKp.out⟩
end Go.Proofs.Ytpomdnglknbanaa
