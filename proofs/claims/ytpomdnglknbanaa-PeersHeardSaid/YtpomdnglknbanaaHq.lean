/-
  peers.Hear: what it asks, and what it says where that is not so; what was heard, in plain Lean.
-/
import Derived.Test.YtpomdnglknbanaaHr
set_option linter.unusedSimpArgs false
set_option linter.unusedVariables false
namespace Go.Proofs.Ytpomdnglknbanaa
open Go.RowKit

theorem getD_set {L : List Peer} {i k : Nat} {q : Peer} (hi : i < L.length) : (L.set i q).getD k default = if k = i then q else L.getD k default := by
  simp only [List.getD_eq_getElem?_getD, List.getElem?_set]
  by_cases h : i = k
  · subst h; simp [hi]
  · have h' : ¬ k = i := fun e => h e.symm
    simp [h, h']
theorem heardP_id (p : Peer) (i s now : Int) : (heardP p i s now).id = p.id := by unfold heardP; split <;> rfl
theorem heardP_cap (p : Peer) (i s now : Int) : (heardP p i s now).cap = p.cap := by unfold heardP; split <;> rfl
theorem pushd_len {z : Int} {l : List Int} {v : Int} (hz : 1 ≤ z) (h : (l.length : Int) ≤ z) : ((pushd z l v).length : Int) ≤ z := by
  unfold pushd
  split
  · rename_i e
    rw [List.length_append, List.length_drop]
    have : 1 ≤ l.length := by omega
    simp; omega
  · rw [List.length_append]; simp; omega
theorem pushd_btw {z : Int} {l : List Int} {v : Int} (h : Btw 0 16777216 l) (hv : 0 ≤ v ∧ v ≤ 16777216) : Btw 0 16777216 (pushd z l v) := by
  unfold pushd
  refine Btw.append ?_ (Btw.one hv.1 hv.2)
  split
  · exact h.drop _
  · exact h
theorem heardP_ok {p : Peer} {i s now : Int} (h : PeerOK p) (hi : 0 ≤ i ∧ i < 2147483648) (hs : 1 ≤ s ∧ s < 2147483648) (hn : 0 ≤ now ∧ now ≤ 1073741824) (hl : p.last ≤ now) : PeerOK (heardP p i s now) := by
  obtain ⟨h1, ⟨g1, g2, g3, g4, g5, g6, g7⟩, ⟨w1, w2, w3, w4⟩, l1, l2⟩ := h
  unfold heardP
  split
  · refine ⟨h1, ⟨hi.1, hi.2, by show 0 ≤ s; omega, hs.2, g5, g6, fun h => by have h1 : s = 0 := h.1; omega⟩, ⟨w1, w2, ?_, ?_⟩, hn⟩
    · exact pushd_len (v := min (now - p.last) 16777216) w1 w3
    · exact pushd_btw (v := min (now - p.last) 16777216) w4 (by omega)
  · refine ⟨h1, ⟨g1, g2, g3, g4, ?_, ?_, g7⟩, ⟨w1, w2, w3, w4⟩, l1, l2⟩ <;> (show _ ≤ _) <;> (try dsimp only) <;> split <;> omega
/-- What Hear asks. -/
def HearOK (L : List Peer) (id : ByteArray) (i s now : Int) : Prop := TabOK L ∧ IdOK (byts id) ∧ (0 ≤ i ∧ i < 2147483648) ∧ (1 ≤ s ∧ s < 2147483648) ∧ (0 ≤ now ∧ now ≤ 1073741824) ∧ has L id = true ∧ (L.getD (pos L id) default).last ≤ now
theorem has_lt {L : List Peer} {id : ByteArray} (h : has L id = true) : pos L id < L.length := by unfold has at h; simp at h; exact h.1
theorem has_id {L : List Peer} {id : ByteArray} (h : has L id = true) : (L.getD (pos L id) default).id = id := by unfold has at h; simp at h; exact h.2
theorem HearOK.peer {L : List Peer} {id : ByteArray} {i s now : Int} (h : HearOK L id i s now) : PeerOK (L.getD (pos L id) default) := (tab_good h.1 _ (has_lt h.2.2.2.2.2.1)).1
/-- Whoever keeps the names keeps the order. -/
theorem pairwise_ids {L M : List Peer} (h : M.map (·.id) = L.map (·.id)) (hp : L.Pairwise (fun p q => sl p.id q.id = true)) : M.Pairwise (fun p q => sl p.id q.id = true) := by
  have h1 : (L.map (·.id)).Pairwise (fun a b => sl a b = true) := List.pairwise_map.2 hp
  rw [← h] at h1
  exact List.pairwise_map.1 h1
theorem hearS_ids (L : List Peer) (id : ByteArray) (i s now : Int) : (hearS L id i s now).map (·.id) = L.map (·.id) := by
  unfold hearS
  rw [List.map_set, heardP_id]
  apply List.ext_getElem?
  intro k
  rw [List.getElem?_set]
  split
  · rename_i e
    subst e
    split
    · rename_i hlt
      have hlt' : pos L id < L.length := by simpa using hlt
      simp [List.getD_eq_getElem?_getD, hlt']
    · rename_i hlt
      rw [List.getElem?_eq_none (by omega)]
  · rfl
theorem pos_ids {L M : List Peer} (h : M.map (·.id) = L.map (·.id)) (id : ByteArray) : pos M id = pos L id := by
  unfold pos
  have : ∀ N : List Peer, (N.takeWhile fun q => sl q.id id).length = ((N.map (·.id)).takeWhile fun a => sl a id).length := fun N => by
    rw [List.takeWhile_map]; simp [Function.comp_def]
  rw [this, this, h]
theorem len_ids {L M : List Peer} (h : M.map (·.id) = L.map (·.id)) : M.length = L.length := by simpa using congrArg List.length h
theorem id_ids {L M : List Peer} (h : M.map (·.id) = L.map (·.id)) (k : Nat) (hk : k < L.length) : (M.getD k default).id = (L.getD k default).id := by
  have hm : k < M.length := by rw [len_ids h]; exact hk
  have := congrArg (fun l => l[k]?) h
  simpa [List.getD_eq_getElem?_getD, hk, hm] using this
theorem has_ids {L M : List Peer} (h : M.map (·.id) = L.map (·.id)) (id : ByteArray) : has M id = has L id := by
  unfold has
  rw [pos_ids h, len_ids h]
  by_cases c : pos L id < L.length
  · rw [id_ids h _ c]
  · simp [c]
theorem HearOK.tab {L : List Peer} {id : ByteArray} {i s now : Int} (h : HearOK L id i s now) : TabOK (hearS L id i s now) := by
  refine ⟨by rw [len_ids (hearS_ids ..)]; exact h.1.len, fun p hp => ?_, pairwise_ids (hearS_ids ..) h.1.order⟩
  unfold hearS at hp
  rcases List.mem_or_eq_of_mem_set hp with hp | rfl
  · exact h.1.each p hp
  · exact heardP_ok h.peer h.2.2.1 h.2.2.2.1 h.2.2.2.2.1 h.2.2.2.2.2.2
theorem hearS_get {L : List Peer} {id : ByteArray} {i s now : Int} (hb : has L id = true) (k : Nat) : (hearS L id i s now).getD k default = if k = pos L id then heardP (L.getD k default) i s now else L.getD k default := by
  unfold hearS
  rw [getD_set (has_lt hb)]
  split
  · rename_i e; rw [e]
  · rfl
/-- Heard again it is not let through. -/
theorem newer_heard (p : Peer) (i s now : Int) : newer (heardP p i s now) i s = false := by
  unfold heardP
  split
  · simp [newer]
  · rename_i h
    have : newer { p with drops := if p.drops = 1073741824 then p.drops else p.drops + 1 } i s = newer p i s := rfl
    rw [this]; simpa using h
theorem heardP_last {p : Peer} {i s now : Int} (h : p.last ≤ now) : (heardP p i s now).last ≤ now := by
  unfold heardP
  split
  · exact Int.le_refl _
  · exact h
theorem HearOK.again {L : List Peer} {id : ByteArray} {i s now : Int} (h : HearOK L id i s now) : HearOK (hearS L id i s now) id i s now := by
  have hb := h.2.2.2.2.2.1
  refine ⟨h.tab, h.2.1, h.2.2.1, h.2.2.2.1, h.2.2.2.2.1, by rw [has_ids (hearS_ids ..)]; exact hb, ?_⟩
  rw [pos_ids (hearS_ids ..), hearS_get hb, if_pos rfl]
  exact heardP_last h.2.2.2.2.2.2

theorem hear_yes (A : Option Addr) (n c : Nat) (L : List Peer) (f : Nat → Prop) (id : ByteArray) (i s now : Int) (w : World) (hr : PRow w A n L f) (h : HearOK L id i s now) :
    Calls Try.prog 42 #[.slice A n c, .agg #[.string id, .int .i64 i, .int .i64 s], .int .i64 now] w fun e w' => ∃ A' c', e = .returned (.tuple #[.slice A' n c', .bool (newer (L.getD (pos L id) default) i s), .int .i64 0]) ∧ Tab w' w.heap.size A' n c' (hearS L id i s now) ∧ Below w.heap.size w w' := by
  obtain ⟨h1, h2, h3, h4, h5, h6, h7⟩ := h
  cases hb : newer (L.getD (pos L id) default) i s with
  | true => exact hear_new A n c L f id i s now _ w hr h1 h2 h3 h4 h5 h6 rfl h7 hb
  | false => exact hear_old A n c L f id i s now _ w hr h1 h2 h3 h4 h5 h6 rfl h7 hb
set_option maxRecDepth 100000 in
set_option maxHeartbeats 16000000 in
theorem hear_not (A : Option Addr) (n c : Nat) (L : List Peer) (f : Nat → Prop) (id : ByteArray) (i s now : Int) (w : World) (hr : PRow w A n L f) (hn : n ≤ 9223372036854775807) (hz : ∀ k, k < n → (L.getD k default).id.size ≤ 9223372036854775807) (hm : id.size ≤ 9223372036854775807)
    (h : ¬ HearOK L id i s now) :
    Calls Try.prog 42 #[.slice A n c, .agg #[.string id, .int .i64 i, .int .i64 s], .int .i64 now] w fun e w' => (∃ k : Int, (k != 0) = true ∧ e = .returned (.tuple #[.slice none 0 0, .bool false, .int .i64 k])) ∧ Below w.heap.size w w' := by
  have hl := hr.1
  have HR := Lib.hid hr
  have qa := alloc_cells
  have qf := alloc_frozens
  by_cases h1 : TabOK L
  · have h6 := h1.len
    have HC := Lib.hid (fun w' (hr : PRow w' A n L f) => pcheck_ok A n c L f w' hr h1)
    by_cases h2 : IdOK (byts id)
    · by_cases h3 : (0 ≤ i ∧ i < 2147483648) ∧ (1 ≤ s ∧ s < 2147483648)
      · have HBc := Lib.hid (fun w' => bcheck_ok id i s w' h2 h3.1 h3.2)
        have HF := Lib.hid (fun w' (hr : PRow w' A n L f) => find_ok A n c L f id w' hr (by omega) h1.order)
        by_cases h4 : 0 ≤ now ∧ now ≤ 1073741824
        · obtain ⟨n1, n2⟩ := h4
          have d3 : decide (now < 0) = false := by simp; omega
          have d4 : decide (1073741824 < now) = false := by simp; omega
          cases hb : has L id with
          | true =>
            have h7 : ¬ (L.getD (pos L id) default).last ≤ now := fun h7 => h ⟨h1, h2, h3.1, h3.2, ⟨n1, n2⟩, hb, h7⟩
            have HCo := Lib.hid (fun w' (hr : PRow w' A n L f) => copied_ok A n c L f w' hr (by omega) (fun k hk => by have := h1.vals k (by omega); omega))
            have hPl := has_lt hb
            rw [hb] at HF
            obtain ⟨P, hP⟩ : ∃ P, pos L id = P := ⟨_, rfl⟩
            rw [hP] at HF hPl h7
            obtain ⟨p, hp⟩ : ∃ p, L.getD P default = p := ⟨_, rfl⟩
            rw [hp] at h7
            have Hp := Lib.hid hp
            have d5 : now < p.last := by omega
            have hPn : P < n := by omega
            clear hr h hz h1 h2 h3 hb hP hp h7
            go_enter Try.func42, Try.ntmps42
            go_wp2_with fail
            refine (HC.out _ (HR.out.below (by repeat (first | (with_reducible exact Below.refl _ _) | ((with_reducible refine Below.alloc ?_ ?_ _); rotate_left; (next => ((try dsimp only); (try simp only [World.size_alloc, World.size_setCell, World.size_drew]); omega))) | ((with_reducible refine Below.setCell ?_ ?_ _); rotate_left; (next => ((try dsimp only); (try simp only [World.size_alloc, World.size_setCell, World.size_drew]); omega))) | (with_reducible refine Below.drew ?_) | (refine Below.trans ?_ (by assumption)))))).mono ?_
            rintro e w1 ⟨rfl, hb1⟩
            have z1 := hb1.size
            have c1 := Below.cells hb1
            have f1 := Below.frozens hb1
            try simp only [World.size_alloc, World.size_setCell, World.size_drew] at z1 c1 f1
            go_wp2_with fail
            refine (HBc.out _).mono ?_
            rintro e w2 ⟨rfl, hb2⟩
            have z2 := hb2.size
            have c2 := Below.cells hb2
            have f2 := Below.frozens hb2
            try simp only [World.size_alloc, World.size_setCell, World.size_drew] at z2 c2 f2
            go_wp2_with fail
            refine (HF.out _ (HR.out.below (by repeat (first | (with_reducible exact Below.refl _ _) | ((with_reducible refine Below.alloc ?_ ?_ _); rotate_left; (next => ((try dsimp only); (try simp only [World.size_alloc, World.size_setCell, World.size_drew]); omega))) | ((with_reducible refine Below.setCell ?_ ?_ _); rotate_left; (next => ((try dsimp only); (try simp only [World.size_alloc, World.size_setCell, World.size_drew]); omega))) | (with_reducible refine Below.drew ?_) | ((with_reducible refine Below.trans ?_ (Below.mono hb2 ?_)); rotate_left; (next => ((try dsimp only); (try simp only [World.size_alloc, World.size_setCell, World.size_drew]); omega))) | ((with_reducible refine Below.trans ?_ (Below.mono hb1 ?_)); rotate_left; (next => ((try dsimp only); (try simp only [World.size_alloc, World.size_setCell, World.size_drew]); omega))))))).mono ?_
            rintro e w3 ⟨rfl, hb3⟩
            have z3 := hb3.size
            have c3 := Below.cells hb3
            have f3 := Below.frozens hb3
            try simp only [World.size_alloc, World.size_setCell, World.size_drew] at z3 c3 f3
            go_wp2_with fail
            refine (HCo.out _ (HR.out.below (by repeat (first | (with_reducible exact Below.refl _ _) | ((with_reducible refine Below.alloc ?_ ?_ _); rotate_left; (next => ((try dsimp only); (try simp only [World.size_alloc, World.size_setCell, World.size_drew]); omega))) | ((with_reducible refine Below.setCell ?_ ?_ _); rotate_left; (next => ((try dsimp only); (try simp only [World.size_alloc, World.size_setCell, World.size_drew]); omega))) | (with_reducible refine Below.drew ?_) | ((with_reducible refine Below.trans ?_ (Below.mono hb3 ?_)); rotate_left; (next => ((try dsimp only); (try simp only [World.size_alloc, World.size_setCell, World.size_drew]); omega))) | ((with_reducible refine Below.trans ?_ (Below.mono hb2 ?_)); rotate_left; (next => ((try dsimp only); (try simp only [World.size_alloc, World.size_setCell, World.size_drew]); omega))) | ((with_reducible refine Below.trans ?_ (Below.mono hb1 ?_)); rotate_left; (next => ((try dsimp only); (try simp only [World.size_alloc, World.size_setCell, World.size_drew]); omega))))))).mono ?_
            rintro e w4 ⟨A4, cc4, xs, rfl, own4, pv4, hb4⟩
            obtain ⟨b, off, rfl, _, _, hpa⟩ := (show Tab w4 w3.heap.size A4 n cc4 L from ⟨xs, own4, pv4⟩).row.at hPn
            rw [Hp.out] at hpa
            obtain ⟨_, _, _, _, _, k6, _⟩ := hpa
            have BL := Lib.hid (show Below w.heap.size w w4 from (by repeat (first | (with_reducible exact Below.refl _ _) | ((with_reducible refine Below.alloc ?_ ?_ _); rotate_left; (next => ((try dsimp only); (try simp only [World.size_alloc, World.size_setCell, World.size_drew]); omega))) | ((with_reducible refine Below.setCell ?_ ?_ _); rotate_left; (next => ((try dsimp only); (try simp only [World.size_alloc, World.size_setCell, World.size_drew]); omega))) | (with_reducible refine Below.drew ?_) | ((with_reducible refine Below.trans ?_ (Below.mono hb4 ?_)); rotate_left; (next => ((try dsimp only); (try simp only [World.size_alloc, World.size_setCell, World.size_drew]); omega))) | ((with_reducible refine Below.trans ?_ (Below.mono hb3 ?_)); rotate_left; (next => ((try dsimp only); (try simp only [World.size_alloc, World.size_setCell, World.size_drew]); omega))) | ((with_reducible refine Below.trans ?_ (Below.mono hb2 ?_)); rotate_left; (next => ((try dsimp only); (try simp only [World.size_alloc, World.size_setCell, World.size_drew]); omega))) | ((with_reducible refine Below.trans ?_ (Below.mono hb1 ?_)); rotate_left; (next => ((try dsimp only); (try simp only [World.size_alloc, World.size_setCell, World.size_drew]); omega))))))
            clear c1 c2 c3 f1 f2 f3 qa qf hb1 hb2 hb3 hb4 z1 z2 z3 own4 pv4
            go_wp2_with fail
            go_ret3
            exact ⟨⟨1, by decide, rfl⟩, BL.out⟩
          | false =>
            rw [hb] at HF
            obtain ⟨P, hP⟩ : ∃ P, pos L id = P := ⟨_, rfl⟩
            rw [hP] at HF
            clear hr h hz h1 h2 h3 hb hP
            go_enter Try.func42, Try.ntmps42
            go_wp2_with fail
            refine (HC.out _ (HR.out.below (by repeat (first | (with_reducible exact Below.refl _ _) | ((with_reducible refine Below.alloc ?_ ?_ _); rotate_left; (next => ((try dsimp only); (try simp only [World.size_alloc, World.size_setCell, World.size_drew]); omega))) | ((with_reducible refine Below.setCell ?_ ?_ _); rotate_left; (next => ((try dsimp only); (try simp only [World.size_alloc, World.size_setCell, World.size_drew]); omega))) | (with_reducible refine Below.drew ?_) | (refine Below.trans ?_ (by assumption)))))).mono ?_
            rintro e w1 ⟨rfl, hb1⟩
            have z1 := hb1.size
            have c1 := Below.cells hb1
            have f1 := Below.frozens hb1
            try simp only [World.size_alloc, World.size_setCell, World.size_drew] at z1 c1 f1
            go_wp2_with fail
            refine (HBc.out _).mono ?_
            rintro e w2 ⟨rfl, hb2⟩
            have z2 := hb2.size
            have c2 := Below.cells hb2
            have f2 := Below.frozens hb2
            try simp only [World.size_alloc, World.size_setCell, World.size_drew] at z2 c2 f2
            go_wp2_with fail
            refine (HF.out _ (HR.out.below (by repeat (first | (with_reducible exact Below.refl _ _) | ((with_reducible refine Below.alloc ?_ ?_ _); rotate_left; (next => ((try dsimp only); (try simp only [World.size_alloc, World.size_setCell, World.size_drew]); omega))) | ((with_reducible refine Below.setCell ?_ ?_ _); rotate_left; (next => ((try dsimp only); (try simp only [World.size_alloc, World.size_setCell, World.size_drew]); omega))) | (with_reducible refine Below.drew ?_) | ((with_reducible refine Below.trans ?_ (Below.mono hb2 ?_)); rotate_left; (next => ((try dsimp only); (try simp only [World.size_alloc, World.size_setCell, World.size_drew]); omega))) | ((with_reducible refine Below.trans ?_ (Below.mono hb1 ?_)); rotate_left; (next => ((try dsimp only); (try simp only [World.size_alloc, World.size_setCell, World.size_drew]); omega))))))).mono ?_
            rintro e w3 ⟨rfl, hb3⟩
            have z3 := hb3.size
            have c3 := Below.cells hb3
            have f3 := Below.frozens hb3
            try simp only [World.size_alloc, World.size_setCell, World.size_drew] at z3 c3 f3
            go_wp2_with fail
            go_ret3
            exact ⟨⟨4, by decide, rfl⟩, (by repeat (first | (with_reducible exact Below.refl _ _) | ((with_reducible refine Below.alloc ?_ ?_ _); rotate_left; (next => ((try dsimp only); (try simp only [World.size_alloc, World.size_setCell, World.size_drew]); omega))) | ((with_reducible refine Below.setCell ?_ ?_ _); rotate_left; (next => ((try dsimp only); (try simp only [World.size_alloc, World.size_setCell, World.size_drew]); omega))) | (with_reducible refine Below.drew ?_) | ((with_reducible refine Below.trans ?_ (Below.mono hb3 ?_)); rotate_left; (next => ((try dsimp only); (try simp only [World.size_alloc, World.size_setCell, World.size_drew]); omega))) | ((with_reducible refine Below.trans ?_ (Below.mono hb2 ?_)); rotate_left; (next => ((try dsimp only); (try simp only [World.size_alloc, World.size_setCell, World.size_drew]); omega))) | ((with_reducible refine Below.trans ?_ (Below.mono hb1 ?_)); rotate_left; (next => ((try dsimp only); (try simp only [World.size_alloc, World.size_setCell, World.size_drew]); omega)))))⟩
        · by_cases a5 : now < 0
          · have d3 : decide (now < 0) = true := by simp; omega
            clear hr h hz h1 h2 h3 h4
            go_enter Try.func42, Try.ntmps42
            go_wp2_with fail
            refine (HC.out _ (HR.out.below (by repeat (first | (with_reducible exact Below.refl _ _) | ((with_reducible refine Below.alloc ?_ ?_ _); rotate_left; (next => ((try dsimp only); (try simp only [World.size_alloc, World.size_setCell, World.size_drew]); omega))) | ((with_reducible refine Below.setCell ?_ ?_ _); rotate_left; (next => ((try dsimp only); (try simp only [World.size_alloc, World.size_setCell, World.size_drew]); omega))) | (with_reducible refine Below.drew ?_) | (refine Below.trans ?_ (by assumption)))))).mono ?_
            rintro e w1 ⟨rfl, hb1⟩
            have z1 := hb1.size
            have c1 := Below.cells hb1
            have f1 := Below.frozens hb1
            try simp only [World.size_alloc, World.size_setCell, World.size_drew] at z1 c1 f1
            go_wp2_with fail
            refine (HBc.out _).mono ?_
            rintro e w2 ⟨rfl, hb2⟩
            have z2 := hb2.size
            have c2 := Below.cells hb2
            have f2 := Below.frozens hb2
            try simp only [World.size_alloc, World.size_setCell, World.size_drew] at z2 c2 f2
            go_wp2_with fail
            go_ret3
            exact ⟨⟨1, by decide, rfl⟩, (by repeat (first | (with_reducible exact Below.refl _ _) | ((with_reducible refine Below.alloc ?_ ?_ _); rotate_left; (next => ((try dsimp only); (try simp only [World.size_alloc, World.size_setCell, World.size_drew]); omega))) | ((with_reducible refine Below.setCell ?_ ?_ _); rotate_left; (next => ((try dsimp only); (try simp only [World.size_alloc, World.size_setCell, World.size_drew]); omega))) | (with_reducible refine Below.drew ?_) | ((with_reducible refine Below.trans ?_ (Below.mono hb2 ?_)); rotate_left; (next => ((try dsimp only); (try simp only [World.size_alloc, World.size_setCell, World.size_drew]); omega))) | ((with_reducible refine Below.trans ?_ (Below.mono hb1 ?_)); rotate_left; (next => ((try dsimp only); (try simp only [World.size_alloc, World.size_setCell, World.size_drew]); omega)))))⟩
          · have d3 : decide (now < 0) = false := by simp; omega
            have d4 : decide (1073741824 < now) = true := by simp; omega
            clear hr h hz h1 h2 h3 h4
            go_enter Try.func42, Try.ntmps42
            go_wp2_with fail
            refine (HC.out _ (HR.out.below (by repeat (first | (with_reducible exact Below.refl _ _) | ((with_reducible refine Below.alloc ?_ ?_ _); rotate_left; (next => ((try dsimp only); (try simp only [World.size_alloc, World.size_setCell, World.size_drew]); omega))) | ((with_reducible refine Below.setCell ?_ ?_ _); rotate_left; (next => ((try dsimp only); (try simp only [World.size_alloc, World.size_setCell, World.size_drew]); omega))) | (with_reducible refine Below.drew ?_) | (refine Below.trans ?_ (by assumption)))))).mono ?_
            rintro e w1 ⟨rfl, hb1⟩
            have z1 := hb1.size
            have c1 := Below.cells hb1
            have f1 := Below.frozens hb1
            try simp only [World.size_alloc, World.size_setCell, World.size_drew] at z1 c1 f1
            go_wp2_with fail
            refine (HBc.out _).mono ?_
            rintro e w2 ⟨rfl, hb2⟩
            have z2 := hb2.size
            have c2 := Below.cells hb2
            have f2 := Below.frozens hb2
            try simp only [World.size_alloc, World.size_setCell, World.size_drew] at z2 c2 f2
            go_wp2_with fail
            go_ret3
            exact ⟨⟨1, by decide, rfl⟩, (by repeat (first | (with_reducible exact Below.refl _ _) | ((with_reducible refine Below.alloc ?_ ?_ _); rotate_left; (next => ((try dsimp only); (try simp only [World.size_alloc, World.size_setCell, World.size_drew]); omega))) | ((with_reducible refine Below.setCell ?_ ?_ _); rotate_left; (next => ((try dsimp only); (try simp only [World.size_alloc, World.size_setCell, World.size_drew]); omega))) | (with_reducible refine Below.drew ?_) | ((with_reducible refine Below.trans ?_ (Below.mono hb2 ?_)); rotate_left; (next => ((try dsimp only); (try simp only [World.size_alloc, World.size_setCell, World.size_drew]); omega))) | ((with_reducible refine Below.trans ?_ (Below.mono hb1 ?_)); rotate_left; (next => ((try dsimp only); (try simp only [World.size_alloc, World.size_setCell, World.size_drew]); omega)))))⟩
      · have HBc := Lib.hid (fun w' => bcheck_arg id i s w' h2 h3)
        clear hr h hz h1 h2 h3
        go_enter Try.func42, Try.ntmps42
        go_wp2_with fail
        refine (HC.out _ (HR.out.below (by repeat (first | (with_reducible exact Below.refl _ _) | ((with_reducible refine Below.alloc ?_ ?_ _); rotate_left; (next => ((try dsimp only); (try simp only [World.size_alloc, World.size_setCell, World.size_drew]); omega))) | ((with_reducible refine Below.setCell ?_ ?_ _); rotate_left; (next => ((try dsimp only); (try simp only [World.size_alloc, World.size_setCell, World.size_drew]); omega))) | (with_reducible refine Below.drew ?_) | (refine Below.trans ?_ (by assumption)))))).mono ?_
        rintro e w1 ⟨rfl, hb1⟩
        have z1 := hb1.size
        have c1 := Below.cells hb1
        have f1 := Below.frozens hb1
        try simp only [World.size_alloc, World.size_setCell, World.size_drew] at z1 c1 f1
        go_wp2_with fail
        refine (HBc.out _).mono ?_
        rintro e w2 ⟨rfl, hb2⟩
        have z2 := hb2.size
        have c2 := Below.cells hb2
        have f2 := Below.frozens hb2
        try simp only [World.size_alloc, World.size_setCell, World.size_drew] at z2 c2 f2
        go_wp2_with fail
        go_ret3
        exact ⟨⟨1, by decide, rfl⟩, (by repeat (first | (with_reducible exact Below.refl _ _) | ((with_reducible refine Below.alloc ?_ ?_ _); rotate_left; (next => ((try dsimp only); (try simp only [World.size_alloc, World.size_setCell, World.size_drew]); omega))) | ((with_reducible refine Below.setCell ?_ ?_ _); rotate_left; (next => ((try dsimp only); (try simp only [World.size_alloc, World.size_setCell, World.size_drew]); omega))) | (with_reducible refine Below.drew ?_) | ((with_reducible refine Below.trans ?_ (Below.mono hb2 ?_)); rotate_left; (next => ((try dsimp only); (try simp only [World.size_alloc, World.size_setCell, World.size_drew]); omega))) | ((with_reducible refine Below.trans ?_ (Below.mono hb1 ?_)); rotate_left; (next => ((try dsimp only); (try simp only [World.size_alloc, World.size_setCell, World.size_drew]); omega)))))⟩
    · have HBc := Lib.hid (fun w' => bcheck_form id i s w' hm h2)
      clear hr h hz h1 h2
      go_enter Try.func42, Try.ntmps42
      go_wp2_with fail
      refine (HC.out _ (HR.out.below (by repeat (first | (with_reducible exact Below.refl _ _) | ((with_reducible refine Below.alloc ?_ ?_ _); rotate_left; (next => ((try dsimp only); (try simp only [World.size_alloc, World.size_setCell, World.size_drew]); omega))) | ((with_reducible refine Below.setCell ?_ ?_ _); rotate_left; (next => ((try dsimp only); (try simp only [World.size_alloc, World.size_setCell, World.size_drew]); omega))) | (with_reducible refine Below.drew ?_) | (refine Below.trans ?_ (by assumption)))))).mono ?_
      rintro e w1 ⟨rfl, hb1⟩
      have z1 := hb1.size
      have c1 := Below.cells hb1
      have f1 := Below.frozens hb1
      try simp only [World.size_alloc, World.size_setCell, World.size_drew] at z1 c1 f1
      go_wp2_with fail
      refine (HBc.out _).mono ?_
      rintro e w2 ⟨rfl, hb2⟩
      have z2 := hb2.size
      have c2 := Below.cells hb2
      have f2 := Below.frozens hb2
      try simp only [World.size_alloc, World.size_setCell, World.size_drew] at z2 c2 f2
      go_wp2_with fail
      go_ret3
      exact ⟨⟨3, by decide, rfl⟩, (by repeat (first | (with_reducible exact Below.refl _ _) | ((with_reducible refine Below.alloc ?_ ?_ _); rotate_left; (next => ((try dsimp only); (try simp only [World.size_alloc, World.size_setCell, World.size_drew]); omega))) | ((with_reducible refine Below.setCell ?_ ?_ _); rotate_left; (next => ((try dsimp only); (try simp only [World.size_alloc, World.size_setCell, World.size_drew]); omega))) | (with_reducible refine Below.drew ?_) | ((with_reducible refine Below.trans ?_ (Below.mono hb2 ?_)); rotate_left; (next => ((try dsimp only); (try simp only [World.size_alloc, World.size_setCell, World.size_drew]); omega))) | ((with_reducible refine Below.trans ?_ (Below.mono hb1 ?_)); rotate_left; (next => ((try dsimp only); (try simp only [World.size_alloc, World.size_setCell, World.size_drew]); omega)))))⟩
  · have HC := Lib.hid (fun w' (hr : PRow w' A n L f) => pcheck_bad A n c L f w' hr hn hz h1)
    clear hr h hz h1
    go_enter Try.func42, Try.ntmps42
    go_wp2_with fail
    refine (HC.out _ (HR.out.below (by repeat (first | (with_reducible exact Below.refl _ _) | ((with_reducible refine Below.alloc ?_ ?_ _); rotate_left; (next => ((try dsimp only); (try simp only [World.size_alloc, World.size_setCell, World.size_drew]); omega))) | ((with_reducible refine Below.setCell ?_ ?_ _); rotate_left; (next => ((try dsimp only); (try simp only [World.size_alloc, World.size_setCell, World.size_drew]); omega))) | (with_reducible refine Below.drew ?_) | (refine Below.trans ?_ (by assumption)))))).mono ?_
    rintro e w1 ⟨⟨k, hk, rfl⟩, hb1⟩
    have z1 := hb1.size
    try simp only [World.size_alloc, World.size_setCell, World.size_drew] at z1
    go_wp2_with fail
    go_ret3
    exact ⟨⟨k, hk, rfl⟩, (by repeat (first | (with_reducible exact Below.refl _ _) | ((with_reducible refine Below.alloc ?_ ?_ _); rotate_left; (next => ((try dsimp only); (try simp only [World.size_alloc, World.size_setCell, World.size_drew]); omega))) | ((with_reducible refine Below.setCell ?_ ?_ _); rotate_left; (next => ((try dsimp only); (try simp only [World.size_alloc, World.size_setCell, World.size_drew]); omega))) | (with_reducible refine Below.drew ?_) | ((with_reducible refine Below.trans ?_ (Below.mono hb1 ?_)); rotate_left; (next => ((try dsimp only); (try simp only [World.size_alloc, World.size_setCell, World.size_drew]); omega)))))⟩
end Go.Proofs.Ytpomdnglknbanaa
