/-
  A node in memory: its block, its table of peers, its row of subs; (*Node).Level.
-/
import Derived.Test.YtpomdnglknbanaaNd
import Derived.Test.YtpomdnglknbanaaMp
import Derived.Test.YtpomdnglknbanaaMv
import Derived.Test.YtpomdnglknbanaaMh
set_option linter.unusedSimpArgs false
set_option linter.unusedVariables false
namespace Go.Proofs.Ytpomdnglknbanaa
open Go Go.RowKit

/-- Who wants to be told. -/
structure Sub where
  id : ByteArray
  theta : Int
  on : Bool
instance : Inhabited Sub := ⟨⟨⟨#[]⟩, 0, false⟩⟩
def subC (s : Sub) : List Value := [.string s.id, .int .i64 s.theta, .bool s.on]
def subsC (L : List Sub) : List Value := L.flatMap subC
theorem subsC_len (L : List Sub) : (subsC L).length = L.length * 3 := by
  induction L with
  | nil => rfl
  | cons s L ih =>
    show (subC s ++ subsC L).length = _
    rw [List.length_append, ih]
    simp [subC]; omega
theorem subsC_one (L : List Sub) : ∀ u ∈ subsC L, u.oneCell' = true := by
  intro u hu
  obtain ⟨s, _, hs⟩ := List.mem_flatMap.1 hu
  simp [subC] at hs
  rcases hs with rfl | rfl | rfl <;> rfl
theorem subsC_get : ∀ (L : List Sub) (k i : Nat), k < L.length → i < 3 → (subsC L)[k * 3 + i]? = (subC (L.getD k default))[i]?
  | [], k, i, h, _ => by simp at h
  | s :: L, 0, i, _, hi => by
    show (subC s ++ subsC L)[0 * 3 + i]? = _
    rw [List.getElem?_append_left (by simp [subC]; omega)]
    simp
  | s :: L, k + 1, i, h, hi => by
    show (subC s ++ subsC L)[(k + 1) * 3 + i]? = _
    rw [List.getElem?_append_right (by simp [subC]; omega), show (k + 1) * 3 + i - (subC s).length = k * 3 + i by simp [subC]; omega, subsC_get L k i (by simpa using h) hi]
    simp
/-- What a node is. -/
structure NSt where
  id : ByteArray
  inc : Int
  every : Int
  cap : Int
  least : Int
  now : Int
  seq : Int
  drops : Int
  peers : List Peer
  subs : List Sub
def NRep (w : World) (b : Nat) (s : NSt) (f : Nat → Prop) : Prop :=
  ∃ (A : Option Addr) (n c : Nat) (S : Value), NodeAt w b s.id s.inc s.every s.cap s.least s.now s.seq s.drops (.slice A n c) S ∧ f b ∧ PRow w A n s.peers (fun x => f x ∧ x ≠ b ∧ S.ownBlock ≠ some x) ∧
    w.ownsRow 0 102 3 S s.subs.length (subsC s.subs) ∧ (∀ g, S.ownBlock = some g → f g ∧ g ≠ b) ∧ ∀ x, f x → x < w.heap.size
theorem own_same {f : Nat → Prop} {w w' : World} {B e s n : Nat} {v : Value} {xs : List Value} (h : w.ownsRow B e s v n xs) (hf : ∀ g, v.ownBlock = some g → f g) (hs : Same f w w') : w'.ownsRow B e s v n xs := by
  refine ⟨h.1, ?_⟩
  rcases h.2 with h1 | ⟨g, cap, cur, rfl, h1, h2, h3⟩
  · exact .inl h1
  · exact .inr ⟨g, cap, cur, rfl, h1, (hs.2 g (Array.getElem?_eq_some_iff.1 h2).1 (hf g rfl)).trans h2, h3⟩
theorem NRep.same {w w' : World} {b : Nat} {s : NSt} {f : Nat → Prop} (h : NRep w b s f) (hs : Same f w w') : NRep w' b s f := by
  obtain ⟨A, n, c, S, h1, h2, h3, h4, h5, h6⟩ := h
  exact ⟨A, n, c, S, h1.same (hs.2 b h1.lt h2), h2, h3.same ⟨hs.1, fun x hx hfx => hs.2 x hx hfx.1⟩, own_same h4 (fun g hg => (h5 g hg).1) hs, h5, fun x hx => Nat.lt_of_lt_of_le (h6 x hx) hs.1⟩
theorem NRep.below {w w' : World} {b : Nat} {s : NSt} {f : Nat → Prop} (h : NRep w b s f) (hb : Below w.heap.size w w') : NRep w' b s f := h.same (Same.of_below hb)
/-- Only where f holds, and what is new. -/
structure Kept (f : Nat → Prop) (w w' : World) : Prop where
  os : w'.os = w.os
  tape : w'.tape = w.tape
  output : w'.output = w.output
  size : w.heap.size ≤ w'.heap.size
  block : ∀ x, x < w.heap.size → ¬ f x → w'.heap[x]? = w.heap[x]?
theorem Kept.refl (f : Nat → Prop) (w : World) : Kept f w w := ⟨rfl, rfl, rfl, Nat.le_refl _, fun _ _ _ => rfl⟩
theorem Kept.trans {f g : Nat → Prop} {w w1 w2 : World} (h : Kept f w w1) (k : Kept g w1 w2) (hg : ∀ x, x < w.heap.size → g x → f x) : Kept f w w2 :=
  ⟨k.os.trans h.os, k.tape.trans h.tape, k.output.trans h.output, Nat.le_trans h.size k.size, fun x hx hf => (k.block x (Nat.lt_of_lt_of_le hx h.size) (fun hgx => hf (hg x hx hgx))).trans (h.block x hx hf)⟩
theorem Kept.of_below {f : Nat → Prop} {w w' : World} (h : Below w.heap.size w w') : Kept f w w' := ⟨h.os, h.tape, h.output, h.size, fun x hx _ => h.block x hx⟩
theorem Kept.below {f : Nat → Prop} {B : Nat} {w w' : World} (h : Kept f w w') (hB : B ≤ w.heap.size) (hf : ∀ x, f x → B ≤ x) : Below B w w' := ⟨h.os, h.tape, h.output, h.size, fun x hx => h.block x (by omega) (fun hfx => by have := hf x hfx; omega)⟩
theorem Kept.same {f g : Nat → Prop} {w w' : World} (h : Kept f w w') (hd : ∀ x, g x → ¬ f x) : Same g w w' := ⟨h.size, fun x hx hg => h.block x hx (hd x hg)⟩

/-! The level of a peer. -/
def lvP (least now : Int) (p : Peer) : Int := lv p.vals least (now - p.last)
def levN (s : NSt) (id : ByteArray) : Int := if has s.peers id then lvP s.least s.now (s.peers.getD (pos s.peers id) default) else 0
/-- A node that may be. -/
structure NOK (s : NSt) : Prop where
  id : IdOK (byts s.id)
  inc : 0 ≤ s.inc ∧ s.inc < 2147483648
  every : 1 ≤ s.every ∧ s.every ≤ 16777216
  cap : 1 ≤ s.cap ∧ s.cap ≤ 64
  least : 1 ≤ s.least ∧ s.least ≤ 16777216
  now : 0 ≤ s.now ∧ s.now ≤ 1073741824
  seq : 0 ≤ s.seq ∧ s.seq ≤ s.now
  drops : 0 ≤ s.drops ∧ s.drops ≤ 1073741824
  tab : TabOK s.peers
  wins : ∀ p ∈ s.peers, 1 ≤ p.vals.length ∧ p.last ≤ s.now
  subs : s.subs.length ≤ 8
theorem NOK.at {s : NSt} (h : NOK s) {k : Nat} (hk : k < s.peers.length) : PeerOK (s.peers.getD k default) ∧ 1 ≤ (s.peers.getD k default).vals.length ∧ (s.peers.getD k default).last ≤ s.now := by
  have hm : s.peers.getD k default ∈ s.peers := by
    rw [List.getD_eq_getElem?_getD, List.getElem?_eq_getElem hk]; exact List.getElem_mem _
  exact ⟨h.tab.each _ hm, h.wins _ hm⟩

set_option maxHeartbeats 2000000 in
theorem idf_ok (s id : ByteArray) (a b c d x : Int) (v : Value) (bx : Nat) (r : Bool) (w : World) (hc : w.cell? ⟨bx, 0, none⟩ = some (.string id)) (hbx : bx < w.heap.size) (hv : v.oneCell' = true) (hr : (s.toList == id.toList) = r) :
    Calls Try.prog 99 #[.agg #[.string s, .int .i64 a, .int .i64 b, .int .i64 c, .int .i64 d, v, .int .i64 x], .pointer (some ⟨bx, 0, none⟩)] w fun e w' => e = .returned (.bool r) ∧ Below w.heap.size w w' := by
  have HRr := Lib.hid hr
  have qa := alloc_cells
  have qf := alloc_frozens
  clear hr
  go_enter Try.func99, Try.ntmps99
  go_wp2_with fail
  go_ret
  exact ⟨by rw [← HRr.out]; rfl, (by repeat (first | (with_reducible exact Below.refl _ _) | ((with_reducible refine Below.alloc ?_ ?_ _); rotate_left; (next => ((try dsimp only); (try simp only [World.size_alloc, World.size_setCell, World.size_drew]); omega))) | ((with_reducible refine Below.setCell ?_ ?_ _); rotate_left; (next => ((try dsimp only); (try simp only [World.size_alloc, World.size_setCell, World.size_drew]); omega))) | (with_reducible refine Below.drew ?_) | (refine Below.trans ?_ (by assumption))))⟩
set_option maxRecDepth 100000 in
set_option maxHeartbeats 4000000 in
theorem index_id (A : Option Addr) (n c : Nat) (L : List Peer) (f : Nat → Prop) (id : ByteArray) (bx : Nat) (i : Int) (w : World) (hr : PRow w A n L f) (hn : n ≤ 1000) (hT : TabOK L) (hc : w.cell? ⟨bx, 0, none⟩ = some (.string id)) (hi : (if has L id then (pos L id : Int) else -1) = i) :
    Calls Try.prog 73 #[.slice A n c, .func (.func 99) #[] #[.pointer (some ⟨bx, 0, none⟩)]] w fun e w' => e = .returned (.int .i64 i) ∧ Below w.heap.size w w' := by
  have hl := hr.1
  have HR := Lib.hid hr
  have HT := Lib.hid hT
  have hbx := World.block_lt_of_cell? w _ hc
  have HC := Lib.hid hc
  have HI := Lib.hid hi
  have HF := Lib.hid idf_ok
  clear hr hT hc hi
  have qa := alloc_cells
  have qf := alloc_frozens
  go_enter Try.func73, Try.ntmps73
  go_wp2_with fail
  go_loopw [8] (fun v wr => ∃ k : Nat, k ≤ n ∧ v = .int .i64 k ∧ (∀ j, j < k → (L.getD j default).id ≠ id) ∧ Below w.heap.size w wr) (fun v _ => n - (intOf v).toNat)
  case atStart => exact ⟨0, Nat.zero_le _, rfl, fun j hj => absurd hj (by omega), (by repeat (first | (with_reducible exact Below.refl _ _) | ((with_reducible refine Below.alloc ?_ ?_ _); rotate_left; (next => ((try dsimp only); (try simp only [World.size_alloc, World.size_setCell, World.size_drew]); omega))) | ((with_reducible refine Below.setCell ?_ ?_ _); rotate_left; (next => ((try dsimp only); (try simp only [World.size_alloc, World.size_setCell, World.size_drew]); omega))) | (with_reducible refine Below.drew ?_) | (refine Below.trans ?_ (by assumption))))⟩
  case round =>
    obtain ⟨k, hk, rfl, hno, bel⟩ := hrel
    have sz0 := bel.size
    have cb : wr.cell? ⟨bx, 0, none⟩ = some (.string id) := (bel.cell (p := ⟨bx, 0, none⟩) hbx).trans HC.out
    have bz : bx < wr.heap.size := by omega
    by_cases hlt : k < n
    · obtain ⟨b, off, rfl, lb, _, hp⟩ := (HR.out.below bel).at hlt
      obtain ⟨p, hpk⟩ : ∃ p, L.getD k default = p := ⟨_, rfl⟩
      rw [hpk] at hp
      obtain ⟨k0, k1, k2, k3, k4, k6, B, cc, k5, hin, _⟩ := hp
      have B0 := Lib.hid bel
      by_cases he : p.id = id
      · have hs : (p.id.toList == id.toList) = true := by rw [he]; simp
        have hh : has L id = true := (has_iff HT.out.order id).2 ⟨p, by rw [← hpk, List.getD_eq_getElem?_getD, List.getElem?_eq_getElem (show k < L.length by omega)]; exact List.getElem_mem _, he⟩
        have hki := pos_unique HT.out hh (show k < L.length by omega) (by rw [hpk]; exact he)
        have hii : (k : Int) = i := by rw [← HI.out, if_pos hh, hki]
        have HKi := Lib.hid hii
        clear bel hin hno hpk he hh hki hii
        go_wp2_with fail
        refine (HF.out _ id _ _ _ _ _ _ bx true _ cb bz rfl hs).mono ?_
        rintro e w1 ⟨rfl, hb1⟩
        have z1 := hb1.size
        have c1 := Below.cells hb1
        have f1 := Below.frozens hb1
        try simp only [World.size_alloc, World.size_setCell, World.size_drew] at z1 c1 f1
        go_wp2_with fail
        go_ret
        exact ⟨by rw [← HKi.out]; rfl, B0.out.trans (Below.mono hb1 sz0)⟩
      · have hs := str_ne he
        have HNo := Lib.hid (show ∀ j, j < k + 1 → (L.getD j default).id ≠ id from fun j hj => by
          rcases Nat.lt_or_ge j k with c | c
          · exact hno j c
          · obtain rfl : j = k := by omega
            rw [hpk]; exact he)
        clear bel hin hno hpk he
        go_wp2_with fail
        refine (HF.out _ id _ _ _ _ _ _ bx false _ cb bz rfl hs).mono ?_
        rintro e w1 ⟨rfl, hb1⟩
        have z1 := hb1.size
        have c1 := Below.cells hb1
        have f1 := Below.frozens hb1
        try simp only [World.size_alloc, World.size_setCell, World.size_drew] at z1 c1 f1
        go_wp2_with fail
        go_roundw
        case rel => exact ⟨k + 1, by omega, by go_num, HNo.out, B0.out.trans (Below.mono hb1 sz0)⟩
        case measure => simp [intOf]; omega
    · obtain rfl : n = k := by omega
      have hh : has L id = false := by
        cases hb : has L id with
        | false => rfl
        | true => exact absurd (has_id hb) (hno _ (by have := has_lt hb; omega))
      have hii : -1 = i := by rw [← HI.out, hh]; rfl
      have HKi := Lib.hid hii
      clear hno hh hii
      go_wp2_with fail
      go_ret
      exact ⟨by rw [← HKi.out]; rfl, bel⟩
set_option maxRecDepth 100000 in
set_option maxHeartbeats 4000000 in
/-- (*Node).Level. -/
theorem nlevel_ok (b : Nat) (s : NSt) (f : Nat → Prop) (id : ByteArray) (w : World) (h : NRep w b s f) (ok : NOK s) (k e0 : Int) (hk : levN s id = k) (he : (if has s.peers id then 0 else 4) = e0) :
    Calls Try.prog 34 #[.pointer (some ⟨b, 0, none⟩), .string id] w fun e w' => e = .returned (.tuple #[.int .i64 k, .int .i64 e0]) ∧ Below w.heap.size w w' := by
  obtain ⟨A, n, c, S, hnd, hfb, hpr, _, _, _⟩ := h
  have hl := hpr.1
  have h6 := ok.tab.len
  have hnl := hnd.lt
  have HND := Lib.hid hnd
  have HPR := Lib.hid hpr
  have HIx := Lib.hid (fun bx i w' (hr : PRow w' A n s.peers (fun x => f x ∧ x ≠ b ∧ S.ownBlock ≠ some x)) hc hi => index_id A n c s.peers _ id bx i w' hr (by omega) ok.tab hc hi)
  have qa := alloc_cells
  have qf := alloc_frozens
  cases hh : has s.peers id with
  | false =>
    have e4 : (4 : Int) = e0 := by rw [← he, hh]; rfl
    have ek : (0 : Int) = k := by rw [← hk]; unfold levN; rw [hh]; rfl
    have hi : (if has s.peers id then (pos s.peers id : Int) else -1) = -1 := by rw [hh]; rfl
    have HI := Lib.hid hi
    have HE := Lib.hid e4
    have HK := Lib.hid ek
    obtain ⟨_, _, _, _, _, _, _, _, k8, _⟩ := hnd.cells
    clear hnd hpr ok hk he hi e4 ek hh
    go_enter Try.func34, Try.ntmps34
    go_wp2_with fail
    refine (HIx.out w.heap.size (-1) _ (HPR.out.below (by repeat (first | (with_reducible exact Below.refl _ _) | ((with_reducible refine Below.alloc ?_ ?_ _); rotate_left; (next => ((try dsimp only); (try simp only [World.size_alloc, World.size_setCell, World.size_drew]); omega))) | ((with_reducible refine Below.setCell ?_ ?_ _); rotate_left; (next => ((try dsimp only); (try simp only [World.size_alloc, World.size_setCell, World.size_drew]); omega))) | (with_reducible refine Below.drew ?_) | (refine Below.trans ?_ (by assumption))))) (by simp [go_sem, ↓IntWalk.iteOmega, *]) HI.out).mono ?_
    rintro e w1 ⟨rfl, hb1⟩
    have z1 := hb1.size
    have c1 := Below.cells hb1
    have f1 := Below.frozens hb1
    try simp only [World.size_alloc, World.size_setCell, World.size_drew] at z1 c1 f1
    go_wp2_with fail
    go_ret2
    exact ⟨by rw [← HE.out, ← HK.out]; rfl, (by repeat (first | (with_reducible exact Below.refl _ _) | ((with_reducible refine Below.alloc ?_ ?_ _); rotate_left; (next => ((try dsimp only); (try simp only [World.size_alloc, World.size_setCell, World.size_drew]); omega))) | ((with_reducible refine Below.setCell ?_ ?_ _); rotate_left; (next => ((try dsimp only); (try simp only [World.size_alloc, World.size_setCell, World.size_drew]); omega))) | (with_reducible refine Below.drew ?_) | ((with_reducible refine Below.trans ?_ (Below.mono hb1 ?_)); rotate_left; (next => ((try dsimp only); (try simp only [World.size_alloc, World.size_setCell, World.size_drew]); omega)))))⟩
  | true =>
    have e4 : (0 : Int) = e0 := by rw [← he, hh]; rfl
    have hlt := has_lt hh
    obtain ⟨p, hpk⟩ : ∃ p, s.peers.getD (pos s.peers id) default = p := ⟨_, rfl⟩
    have ek : lv p.vals s.least (s.now - p.last) = k := by rw [← hk]; unfold levN lvP; rw [hh, hpk]; rfl
    obtain ⟨P, hP⟩ : ∃ P, pos s.peers id = P := ⟨_, rfl⟩
    have hpo := ok.at hlt
    have hi : (if has s.peers id then (pos s.peers id : Int) else -1) = (P : Int) := by rw [hh, hP]; rfl
    rw [hP] at hpk hlt hpo
    rw [hpk] at hpo
    obtain ⟨hpo1, hpo2, hpo3⟩ := hpo
    obtain ⟨lo1, lo2⟩ := hpo1.last
    have nw := ok.now
    have HLv := Lib.hid (fun A c w' (hr : Row w' A p.vals.length p.vals) => level_lv p.cap s.least (s.now - p.last) A p.vals.length c p.vals w' hr ⟨hpo1.win.1, hpo1.win.2.1⟩ hpo1.win.2.2.1 hpo2 hpo1.win.2.2.2 ok.least (by omega))
    have HWin := Lib.hid hpo1.win
    have HLe := Lib.hid ok.least
    have HI := Lib.hid hi
    have HE := Lib.hid e4
    have HK := Lib.hid ek
    have hPn : P < n := by omega
    obtain ⟨tb, off, rfl, ltb, _, hpa⟩ := hpr.at hPn
    rw [hpk] at hpa
    obtain ⟨j0, j1, j2, j3, j4, j6, B, cc, j5, hin, _⟩ := hpa
    have HIn := Lib.hid hin.1
    have p0' : decide ((P : Int) < 0) = false := by simp
    obtain ⟨_, _, _, _, k4, k5, _, _, k8, _⟩ := hnd.cells
    have HK45 := Lib.hid (And.intro k4 k5)
    have sub1 : IntKind.i64.wrap (s.now - p.last) = s.now - p.last := IntWalk.i64_in _ (by omega)
    have p0 : ¬ (P : Int) < 0 := by omega
    clear hnd hpr ok hk he hi e4 ek hh hP hpo1 hin
    go_enter Try.func34, Try.ntmps34
    go_wp2_with fail
    refine (HIx.out w.heap.size P _ (HPR.out.below (by repeat (first | (with_reducible exact Below.refl _ _) | ((with_reducible refine Below.alloc ?_ ?_ _); rotate_left; (next => ((try dsimp only); (try simp only [World.size_alloc, World.size_setCell, World.size_drew]); omega))) | ((with_reducible refine Below.setCell ?_ ?_ _); rotate_left; (next => ((try dsimp only); (try simp only [World.size_alloc, World.size_setCell, World.size_drew]); omega))) | (with_reducible refine Below.drew ?_) | (refine Below.trans ?_ (by assumption))))) (by simp [go_sem, ↓IntWalk.iteOmega, *]) HI.out).mono ?_
    rintro e w1 ⟨rfl, hb1⟩
    have z1 := hb1.size
    have c1 := Below.cells hb1
    have f1 := Below.frozens hb1
    try simp only [World.size_alloc, World.size_setCell, World.size_drew] at z1 c1 f1
    go_wp2_with fail
    have HIn1 := Lib.hid (HIn.out.below (w' := w1.alloc (.cells #[.string p.id, .int .i64 p.inc, .int .i64 p.seq, .int .i64 p.drops, .int .i64 p.cap, .slice B p.vals.length cc, .int .i64 p.last] 56)) (by repeat (first | (with_reducible exact Below.refl _ _) | ((with_reducible refine Below.alloc ?_ ?_ _); rotate_left; (next => ((try dsimp only); (try simp only [World.size_alloc, World.size_setCell, World.size_drew]); omega))) | ((with_reducible refine Below.setCell ?_ ?_ _); rotate_left; (next => ((try dsimp only); (try simp only [World.size_alloc, World.size_setCell, World.size_drew]); omega))) | (with_reducible refine Below.drew ?_) | ((with_reducible refine Below.trans ?_ (Below.mono hb1 ?_)); rotate_left; (next => ((try dsimp only); (try simp only [World.size_alloc, World.size_setCell, World.size_drew]); omega))))))
    refine wp_region_quiet_all (Ext _) (by kernel_rfl) (by kernel_rfl) (Ext.drawn _) ?_
    repeat (first | go_big_quiet_skip | go_big_quiet_step (fail) | (refine BigFrame.wpQuiet_want rfl (fun K hK => ?_); apply Exists.intro; refine ⟨fun w2 h2 => ?_, ?_⟩; (next => (have g1 := Below.cells h2.below; have g2 := Below.frozens h2.below; (try simp only [World.size_alloc, World.size_setCell] at g1 g2); first | (go_simp; (go_at_call 35; refine h2.calls (HLv.out B cc _ (HIn1.out.below h2.below)))) | (simp [go_sem, ↓IntWalk.iteOmega, *]; done) | (simp [go_sem, ↓IntWalk.iteOmega, *]; rfl)))); (go_simp; refine hK _ ?_; clear hK K))
    refine wpQuiet_nil ?_
    intro w2 h2
    have hb2 := h2.below
    clear h2
    have z2 := hb2.size
    have c2 := Below.cells hb2
    have f2 := Below.frozens hb2
    try simp only [World.size_alloc, World.size_setCell, World.size_drew] at z2 c2 f2
    go_wp2_with fail
    go_ret2
    exact ⟨by rw [← HE.out, ← HK.out]; rfl, (by repeat (first | (with_reducible exact Below.refl _ _) | ((with_reducible refine Below.alloc ?_ ?_ _); rotate_left; (next => ((try dsimp only); (try simp only [World.size_alloc, World.size_setCell, World.size_drew]); omega))) | ((with_reducible refine Below.setCell ?_ ?_ _); rotate_left; (next => ((try dsimp only); (try simp only [World.size_alloc, World.size_setCell, World.size_drew]); omega))) | (with_reducible refine Below.drew ?_) | ((with_reducible refine Below.trans ?_ (Below.mono hb2 ?_)); rotate_left; (next => ((try dsimp only); (try simp only [World.size_alloc, World.size_setCell, World.size_drew]); omega))) | ((with_reducible refine Below.trans ?_ (Below.mono hb1 ?_)); rotate_left; (next => ((try dsimp only); (try simp only [World.size_alloc, World.size_setCell, World.size_drew]); omega)))))⟩
end Go.Proofs.Ytpomdnglknbanaa
