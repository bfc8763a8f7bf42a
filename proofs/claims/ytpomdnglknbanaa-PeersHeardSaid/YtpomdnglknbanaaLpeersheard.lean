import Derived.Test.YtpomdnglknbanaaPa
import Derived.Test.YtpomdnglknbanaaPn
import Derived.Test.YtpomdnglknbanaaHq
set_option linter.unusedSimpArgs false
set_option linter.unusedVariables false
namespace Go.Proofs.Ytpomdnglknbanaa
open Go Go.RowKit
theorem pos_unique {L : List Peer} {id : ByteArray} {k : Nat} (h : TabOK L) (hb : has L id = true) (hk : k < L.length) (e : (L.getD k default).id = id) : k = pos L id := by
  have hg : ∀ j (hj : j < L.length), L.getD j default = L[j] := fun j hj => by simp [List.getD_eq_getElem?_getD, hj]
  rcases Nat.lt_trichotomy k (pos L id) with c | c | c
  · have := pos_lo c
    rw [e, sl_irr] at this; cases this
  · exact c
  · have h1 := List.pairwise_iff_getElem.1 h.order _ _ (has_lt hb) hk c
    rw [← hg _ (has_lt hb), ← hg _ hk, has_id hb, e, sl_irr] at h1
    cases h1
theorem str_ne {a b : ByteArray} (h : a ≠ b) : (a.toList == b.toList) = false := by
  cases hc : a.toList == b.toList with
  | false => rfl
  | true => exact absurd (toList_inj (by simpa using hc)) h
set_option maxRecDepth 100000 in
set_option maxHeartbeats 16000000 in
theorem peersHeard_walk (A : Option Addr) (n c : Nat) (L : List Peer) (id : ByteArray) (i s now : Int) (w : World) (hr : PRow w A n L (fun _ => True)) (hn : n ≤ 9223372036854775807) (hz : ∀ k, k < n → (L.getD k default).id.size ≤ 9223372036854775807) (hm : id.size ≤ maxLen)
    (_ : (Lit.int .i64 i).wf = true) (_ : (Lit.int .i64 s).wf = true) (_ : (Lit.int .i64 now).wf = true) :
    Calls Try.prog 6 #[.slice A n c, .agg #[.string id, .int .i64 i, .int .i64 s], .int .i64 now] w fun e w' => e = .returned (.bool true) ∧ Below w.heap.size w w' := by
  have HB := Lib.hid (fun w => pbegun_ok w)
  have HR := Lib.hid hr
  have hl := hr.1
  have qa := alloc_cells
  have qf := alloc_frozens
  by_cases hok : HearOK L id i s now
  · have HA := Lib.hid (fun w' (hr : PRow w' A n L (fun _ => True)) => hear_yes A n c L _ id i s now w' hr hok)
    have HK := Lib.hid (fun A' c' g w' (hr : PRow w' A' n (hearS L id i s now) g) => pcheck_ok A' n c' _ g w' hr hok.tab)
    have HX := Lib.hid (fun A' c' g w' (hr : PRow w' A' n (hearS L id i s now) g) => hear_yes A' n c' _ g id i s now w' hr hok.again)
    have hb := hok.2.2.2.2.2.1
    have ha2 : newer ((hearS L id i s now).getD (pos (hearS L id i s now) id) default) i s = false := by rw [pos_ids (hearS_ids ..), hearS_get hb, if_pos rfl]; exact newer_heard _ _ _ _
    rw [ha2] at HX
    have HGet := Lib.hid (fun k => hearS_get (i := i) (s := s) (now := now) hb k)
    have HUn := Lib.hid (fun k (hk : k < n) => pos_unique (k := k) hok.1 hb (by omega))
    have HId := Lib.hid (has_id hb)
    have HV := Lib.hid (fun k (hk : k < n) => hok.1.vals k (by omega))
    obtain ⟨X, hX⟩ : ∃ X, hearS L id i s now = X := ⟨_, rfl⟩
    rw [hX] at HA HK HX HGet
    obtain ⟨P, hP⟩ : ∃ P, pos L id = P := ⟨_, rfl⟩
    rw [hP] at HA HGet HUn HId
    obtain ⟨b, hbb⟩ : ∃ b, newer (L.getD P default) i s = b := ⟨_, rfl⟩
    rw [hbb] at HA
    have HBb := Lib.hid hbb
    have HSp := Lib.hid samePeer_ok
    have HSw := Lib.hid sameWin_ok
    clear hr hz hok hb ha2 hX hP hbb
    go_enter Try.func6, Try.ntmps6
    go_wp2_with fail
    refine (HB.out _).mono ?_
    rintro e w1 ⟨rfl, hb1⟩
    have z1 := hb1.size
    have c1 := Below.cells hb1
    have f1 := Below.frozens hb1
    try simp only [World.size_alloc, World.size_setCell, World.size_drew] at z1 c1 f1
    go_wp2_with fail
    refine (HA.out _ (HR.out.below (by repeat (first | (with_reducible exact Below.refl _ _) | ((with_reducible refine Below.alloc ?_ ?_ _); rotate_left; (next => ((try dsimp only); (try simp only [World.size_alloc, World.size_setCell, World.size_drew]); omega))) | ((with_reducible refine Below.setCell ?_ ?_ _); rotate_left; (next => ((try dsimp only); (try simp only [World.size_alloc, World.size_setCell, World.size_drew]); omega))) | (with_reducible refine Below.drew ?_) | ((with_reducible refine Below.trans ?_ (Below.mono hb1 ?_)); rotate_left; (next => ((try dsimp only); (try simp only [World.size_alloc, World.size_setCell, World.size_drew]); omega))))))).mono ?_
    rintro e w2 ⟨A2, c2', rfl, T2, hb2⟩
    have R2 := Lib.hid T2.row
    have z2 := hb2.size
    have c2 := Below.cells hb2
    have f2 := Below.frozens hb2
    try simp only [World.size_alloc, World.size_setCell, World.size_drew] at z2 c2 f2
    clear T2
    go_wp2_with fail
    refine (HK.out A2 c2' _ _ R2.out).mono ?_
    rintro e w3 ⟨rfl, hb3⟩
    have z3 := hb3.size
    have c3 := Below.cells hb3
    have f3 := Below.frozens hb3
    try simp only [World.size_alloc, World.size_setCell, World.size_drew] at z3 c3 f3
    go_wp2_with fail
    have R3 := Lib.hid (R2.out.below hb3)
    have HR3 := Lib.hid (HR.out.below (show Below w.heap.size w w3 from (by repeat (first | (with_reducible exact Below.refl _ _) | ((with_reducible refine Below.alloc ?_ ?_ _); rotate_left; (next => ((try dsimp only); (try simp only [World.size_alloc, World.size_setCell, World.size_drew]); omega))) | ((with_reducible refine Below.setCell ?_ ?_ _); rotate_left; (next => ((try dsimp only); (try simp only [World.size_alloc, World.size_setCell, World.size_drew]); omega))) | (with_reducible refine Below.drew ?_) | ((with_reducible refine Below.trans ?_ (Below.mono hb3 ?_)); rotate_left; (next => ((try dsimp only); (try simp only [World.size_alloc, World.size_setCell, World.size_drew]); omega))) | ((with_reducible refine Below.trans ?_ (Below.mono hb2 ?_)); rotate_left; (next => ((try dsimp only); (try simp only [World.size_alloc, World.size_setCell, World.size_drew]); omega))) | ((with_reducible refine Below.trans ?_ (Below.mono hb1 ?_)); rotate_left; (next => ((try dsimp only); (try simp only [World.size_alloc, World.size_setCell, World.size_drew]); omega)))))))
    have B3 := Lib.hid (show Below w.heap.size w w3 from (by repeat (first | (with_reducible exact Below.refl _ _) | ((with_reducible refine Below.alloc ?_ ?_ _); rotate_left; (next => ((try dsimp only); (try simp only [World.size_alloc, World.size_setCell, World.size_drew]); omega))) | ((with_reducible refine Below.setCell ?_ ?_ _); rotate_left; (next => ((try dsimp only); (try simp only [World.size_alloc, World.size_setCell, World.size_drew]); omega))) | (with_reducible refine Below.drew ?_) | ((with_reducible refine Below.trans ?_ (Below.mono hb3 ?_)); rotate_left; (next => ((try dsimp only); (try simp only [World.size_alloc, World.size_setCell, World.size_drew]); omega))) | ((with_reducible refine Below.trans ?_ (Below.mono hb2 ?_)); rotate_left; (next => ((try dsimp only); (try simp only [World.size_alloc, World.size_setCell, World.size_drew]); omega))) | ((with_reducible refine Below.trans ?_ (Below.mono hb1 ?_)); rotate_left; (next => ((try dsimp only); (try simp only [World.size_alloc, World.size_setCell, World.size_drew]); omega))))))
    have m0 : w3.cell? ⟨w.heap.size, 0, none⟩ = some (.string id) := by simp [go_sem, ↓IntWalk.iteOmega, *]
    have m1 : w3.cell? ⟨w.heap.size, 1, none⟩ = some (.int .i64 i) := by simp [go_sem, ↓IntWalk.iteOmega, *]
    have m2 : w3.cell? ⟨w.heap.size, 2, none⟩ = some (.int .i64 s) := by simp [go_sem, ↓IntWalk.iteOmega, *]
    have szw : w.heap.size < w3.heap.size := by omega
    have M := Lib.hid (show w3.cell? ⟨w.heap.size, 0, none⟩ = some (.string id) ∧ w3.cell? ⟨w.heap.size, 1, none⟩ = some (.int .i64 i) ∧ w3.cell? ⟨w.heap.size, 2, none⟩ = some (.int .i64 s) from ⟨m0, m1, m2⟩)
    clear c1 f1 c2 f2 c3 f3 qa qf hb1 hb2 hb3 z1 z2 z3 m0 m1 m2
    go_loopw [44] (fun i wr => ∃ k : Nat, k ≤ n ∧ i = .int .i64 k ∧ Below w3.heap.size w3 wr) (fun i _ => n - (intOf i).toNat)
    case atStart => exact ⟨0, Nat.zero_le _, rfl, Below.refl _ _⟩
    case round =>
      obtain ⟨k, hk, rfl, bel⟩ := hrel
      have sz0 := bel.size
      have m0 : wr.cell? ⟨w.heap.size, 0, none⟩ = some (.string id) := (bel.cell (p := ⟨w.heap.size, 0, none⟩) szw).trans M.out.1
      have m1 : wr.cell? ⟨w.heap.size, 1, none⟩ = some (.int .i64 i) := (bel.cell (p := ⟨w.heap.size, 1, none⟩) szw).trans M.out.2.1
      have m2 : wr.cell? ⟨w.heap.size, 2, none⟩ = some (.int .i64 s) := (bel.cell (p := ⟨w.heap.size, 2, none⟩) szw).trans M.out.2.2
      by_cases hlt : k < n
      · obtain ⟨g, off, rfl, _, _, hp⟩ := (HR3.out.below bel).at hlt
        obtain ⟨g', off', rfl, _, _, hp'⟩ := (R3.out.below bel).at hlt
        have hvl := HV.out k hlt
        have hun := HUn.out k hlt
        rw [HGet.out k] at hp'
        obtain ⟨p, hpk⟩ : ∃ p, L.getD k default = p := ⟨_, rfl⟩
        rw [hpk] at hp hp' hvl hun
        have B0 := Lib.hid bel
        by_cases hkP : k = P
        · subst hkP
          rw [if_pos rfl] at hp'
          have hpid : p.id = id := by rw [← hpk]; exact HId.out
          have hbp : newer p i s = b := by rw [← hpk]; exact HBb.out
          unfold heardP at hp'
          rw [hbp] at hp'
          cases b with
          | true =>
            rw [if_pos rfl] at hp'
            obtain ⟨k0, k1, k2, k3, k4, k6, C, cc, k5, hin, _⟩ := hp
            obtain ⟨j0, j1, j2, j3, j4, j6, D, cd, j5, hin', _⟩ := hp'
            rw [hpid] at k0
            clear bel hin hin' hpk hbp hun j1 j2 j3 j4 j5 j0
            go_wp2_with fail
            refine wp_region_quiet_all (Ext _) (by kernel_rfl) (by kernel_rfl) (Ext.drawn _) ?_
            repeat (first | go_big_quiet_skip | go_big_quiet_step (fail) | (refine BigFrame.wpQuiet_want rfl (fun K hK => ?_); apply Exists.intro; refine ⟨fun w2 h2 => ?_, ?_⟩; (next => (have g1 := Below.cells h2.below; have g2 := Below.frozens h2.below; (try simp only [World.size_alloc, World.size_setCell] at g1 g2); first | (go_simp; fail) | (simp [go_sem, ↓IntWalk.iteOmega, *]; done) | (simp [go_sem, ↓IntWalk.iteOmega, *]; rfl)))); (go_simp; refine hK _ ?_; clear hK K))
            refine wpQuiet_nil ?_
            intro w4 h4
            have hb4 := h4.below
            clear h4
            have z4 := hb4.size
            have c4 := Below.cells hb4
            have f4 := Below.frozens hb4
            try simp only [World.size_alloc, World.size_setCell, World.size_drew] at z4 c4 f4
            go_wp2_with fail
            go_roundw
            case rel => exact ⟨k + 1, by omega, by go_num, B0.out.trans (Below.mono hb4 sz0)⟩
            case measure => simp [intOf]; omega
          | false =>
            rw [if_neg (by simp)] at hp'
            obtain ⟨k0, k1, k2, k3, k4, k6, C, cc, k5, hin, _⟩ := hp
            obtain ⟨j0, j1, j2, j3, j4, j6, D, cd, j5, hin', _⟩ := hp'
            rw [hpid] at k0
            have HIn := Lib.hid hin.1
            have HIn' := Lib.hid hin'.1
            clear bel hin hin' hpk hbp hun j1 j2 j3 j0
            go_wp2_with fail
            refine wp_region_quiet_all (Ext _) (by kernel_rfl) (by kernel_rfl) (Ext.drawn _) ?_
            repeat (first | go_big_quiet_skip | go_big_quiet_step (fail) | (refine BigFrame.wpQuiet_want rfl (fun K hK => ?_); apply Exists.intro; refine ⟨fun w2 h2 => ?_, ?_⟩; (next => (have g1 := Below.cells h2.below; have g2 := Below.frozens h2.below; (try simp only [World.size_alloc, World.size_setCell] at g1 g2); first | (go_simp; (go_at_call 36; refine h2.calls (HSw.out _ _ _ _ _ _ p.vals _ (HIn'.out.below h2.below) (HIn.out.below h2.below) (by omega)))) | (simp [go_sem, ↓IntWalk.iteOmega, *]; done) | (simp [go_sem, ↓IntWalk.iteOmega, *]; rfl)))); (go_simp; refine hK _ ?_; clear hK K))
            refine wpQuiet_nil ?_
            intro w4 h4
            have hb4 := h4.below
            clear h4
            have z4 := hb4.size
            have c4 := Below.cells hb4
            have f4 := Below.frozens hb4
            try simp only [World.size_alloc, World.size_setCell, World.size_drew] at z4 c4 f4
            go_wp2_with fail
            go_roundw
            case rel => exact ⟨k + 1, by omega, by go_num, B0.out.trans (Below.mono hb4 sz0)⟩
            case measure => simp [intOf]; omega
        · rw [if_neg hkP] at hp'
          have hne := str_ne (fun e => hkP (hun e))
          obtain ⟨k0, k1, k2, k3, k4, k6, C, cc, k5, hin, _⟩ := hp
          obtain ⟨j0, j1, j2, j3, j4, j6, D, cd, j5, hin', _⟩ := hp'
          have HIn := Lib.hid hin.1
          have HIn' := Lib.hid hin'.1
          clear bel hin hin' hpk hun
          go_wp2_with fail
          refine wp_region_quiet_all (Ext _) (by kernel_rfl) (by kernel_rfl) (Ext.drawn _) ?_
          repeat (first | go_big_quiet_skip | go_big_quiet_step (fail) | (refine BigFrame.wpQuiet_want rfl (fun K hK => ?_); apply Exists.intro; refine ⟨fun w2 h2 => ?_, ?_⟩; (next => (have g1 := Below.cells h2.below; have g2 := Below.frozens h2.below; (try simp only [World.size_alloc, World.size_setCell] at g1 g2); first | (go_simp; (go_at_call 43; refine h2.calls (HSp.out _ _ _ _ _ _ _ _ _ _ _ p.vals _ (HIn.out.below h2.below) (HIn'.out.below h2.below) (by omega)))) | (simp [go_sem, ↓IntWalk.iteOmega, *]; done) | (simp [go_sem, ↓IntWalk.iteOmega, *]; rfl)))); (go_simp; refine hK _ ?_; clear hK K))
          refine wpQuiet_nil ?_
          intro w4 h4
          have hb4 := h4.below
          clear h4
          have z4 := hb4.size
          have c4 := Below.cells hb4
          have f4 := Below.frozens hb4
          try simp only [World.size_alloc, World.size_setCell, World.size_drew] at z4 c4 f4
          go_wp2_with fail
          go_roundw
          case rel => exact ⟨k + 1, by omega, by go_num, B0.out.trans (Below.mono hb4 sz0)⟩
          case measure => simp [intOf]; omega
      · obtain rfl : n = k := by omega
        have HX2 := Lib.hid (HX.out A2 c2' _ wr (R3.out.below bel))
        have B0 := Lib.hid (B3.out.trans (bel.mono B3.out.size))
        clear bel
        go_wp2_with fail
        refine HX2.out.mono ?_
        rintro e w5 ⟨A5, c5', rfl, _, hb5⟩
        go_wp2_with fail
        go_ret
        exact ⟨rfl, B0.out.trans (hb5.mono B0.out.size)⟩
  · have HA := Lib.hid (fun w' (hr : PRow w' A n L (fun _ => True)) => hear_not A n c L _ id i s now w' hr hn hz hm hok)
    clear hr hz hok
    go_enter Try.func6, Try.ntmps6
    go_wp2_with fail
    refine (HB.out _).mono ?_
    rintro e w1 ⟨rfl, hb1⟩
    have z1 := hb1.size
    have c1 := Below.cells hb1
    have f1 := Below.frozens hb1
    try simp only [World.size_alloc, World.size_setCell, World.size_drew] at z1 c1 f1
    go_wp2_with fail
    refine (HA.out _ (HR.out.below (by repeat (first | (with_reducible exact Below.refl _ _) | ((with_reducible refine Below.alloc ?_ ?_ _); rotate_left; (next => ((try dsimp only); (try simp only [World.size_alloc, World.size_setCell, World.size_drew]); omega))) | ((with_reducible refine Below.setCell ?_ ?_ _); rotate_left; (next => ((try dsimp only); (try simp only [World.size_alloc, World.size_setCell, World.size_drew]); omega))) | (with_reducible refine Below.drew ?_) | ((with_reducible refine Below.trans ?_ (Below.mono hb1 ?_)); rotate_left; (next => ((try dsimp only); (try simp only [World.size_alloc, World.size_setCell, World.size_drew]); omega))))))).mono ?_
    rintro e w2 ⟨⟨k, hk, rfl⟩, hb2⟩
    have z2 := hb2.size
    go_wp2_with fail
    go_ret
    exact ⟨rfl, (by repeat (first | (with_reducible exact Below.refl _ _) | ((with_reducible refine Below.alloc ?_ ?_ _); rotate_left; (next => ((try dsimp only); (try simp only [World.size_alloc, World.size_setCell, World.size_drew]); omega))) | ((with_reducible refine Below.setCell ?_ ?_ _); rotate_left; (next => ((try dsimp only); (try simp only [World.size_alloc, World.size_setCell, World.size_drew]); omega))) | (with_reducible refine Below.drew ?_) | ((with_reducible refine Below.trans ?_ (Below.mono hb2 ?_)); rotate_left; (next => ((try dsimp only); (try simp only [World.size_alloc, World.size_setCell, World.size_drew]); omega))) | ((with_reducible refine Below.trans ?_ (Below.mono hb1 ?_)); rotate_left; (next => ((try dsimp only); (try simp only [World.size_alloc, World.size_setCell, World.size_drew]); omega)))))⟩
end Go.Proofs.Ytpomdnglknbanaa
