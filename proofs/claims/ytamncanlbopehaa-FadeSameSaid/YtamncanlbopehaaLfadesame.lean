import Derived.Test.YtamncanlbopehaaRun
import Derived.Test.YtamncanlbopehaaRo
import Derived.Test.YtamncanlbopehaaRep
import Derived.Test.YtamncanlbopehaaVal
import Derived.Test.YtamncanlbopehaaMm
set_option linter.unusedSimpArgs false
set_option linter.unusedVariables false
namespace Go.Proofs.Ytamncanlbopehaa
open Go.RowKit

theorem frun_rep {s x : Int} {k : Nat} (h0 : 0 ≤ s) (h1 : s ≤ 8) (hk : 0 < k) : frun s (List.replicate k x) = 256 * x := by
  have := frun_btw h0 h1 (l := List.replicate k x) (by simpa using hk) (rep_btw (a := x) (b := x) ⟨Int.le_refl _, Int.le_refl _⟩)
  omega
theorem fnext_zero (m x : Int) : fnext m x 0 = 256 * x := by unfold fnext; simp; omega
theorem frun_zero {l : List Int} {n : Nat} (hn : l.length = n) (h : 0 < n) : frun 0 l = 256 * l.getD (n - 1) 0 := by
  subst hn
  rcases (by omega : l.length = 1 ∨ l.length = (l.length - 2) + 2) with h1 | h2
  · have := frun_one 0 (l := l) h
    rw [List.take_of_length_le (by omega)] at this
    rw [this, h1]
  · obtain ⟨k, hk⟩ : ∃ k, l.length - 2 = k := ⟨_, rfl⟩
    rw [hk] at h2
    have := frun_snoc 0 (l := l) (k := k) (by omega)
    rw [List.take_of_length_le (by omega), fnext_zero] at this
    rw [this, h2]; rfl
theorem fnext_shift (m x b s : Int) : fnext (m + 256 * b) (x + b) s = fnext m x s + 256 * b := by
  unfold fnext
  have e : 256 * (x + b) - (m + 256 * b) = 256 * x - m := by rw [Int.mul_add]; omega
  rw [e]; omega
theorem foldl_shift (b s : Int) : ∀ (l : List Int) (m : Int), (l.map (· + b)).foldl (fun m x => fnext m x s) (m + 256 * b) = l.foldl (fun m x => fnext m x s) m + 256 * b
  | [], m => rfl
  | x :: l, m => by
    simp only [List.map_cons, List.foldl_cons]
    rw [fnext_shift, foldl_shift b s l]
theorem frun_shift (b s : Int) {l : List Int} (h : 0 < l.length) : frun s (addI b l) = frun s l + 256 * b := by
  match l, h with
  | x :: l, _ =>
    simp only [frun, addI, List.map_cons, List.tail_cons, List.headD_cons]
    rw [Int.mul_add, foldl_shift]

theorem cell_at_new {w : World} {g i : Nat} {c : Array Value} {T : TypeId} {v : Value} (h : g = w.heap.size) (hv : c[i]? = some v) : (w.alloc (.cells c T)).cell? ⟨g, i, none⟩ = some v := by
  subst h; rw [World.cell?_alloc_new]; exact hv
set_option maxRecDepth 100000 in
set_option maxHeartbeats 16000000 in
theorem fadeSame_walk (p q r s : Int) (a : Option Addr) (len cap : Nat) (l : List Int) (w : World) (_ : (Lit.int .i64 p).wf = true) (_ : (Lit.int .i64 q).wf = true) (_ : (Lit.int .i64 r).wf = true) (_ : (Lit.int .i64 s).wf = true) (hin : InRow w a len cap l) :
    Calls Try.prog 17 #[.int .i64 p, .int .i64 q, .int .i64 r, .int .i64 s, .slice a len cap] w fun e w' =>
      e = .returned (.bool true) ∧ Below w.heap.size w w' := by
  obtain ⟨ys, n, hy, hn, hm, hb⟩ := vals_facts l
  have b1 := within_bd p (n := 16777217) (by omega)
  have b2 := within_bd q (n := 64) (by omega)
  have b3 := within_bd r (n := 9) (by omega)
  obtain ⟨N, e_N⟩ : ∃ z_, within p 16777217 = z_ := ⟨_, rfl⟩
  rw [e_N] at b1
  have HN := Lib.hid e_N
  clear e_N
  obtain ⟨KP, e_KP⟩ : ∃ z_, within q 64 = z_ := ⟨_, rfl⟩
  rw [e_KP] at b2
  have HKP := Lib.hid e_KP
  clear e_KP
  obtain ⟨SH, e_SH⟩ : ∃ z_, within r 9 = z_ := ⟨_, rfl⟩
  rw [e_SH] at b3
  have HSH := Lib.hid e_SH
  clear e_SH
  obtain ⟨k, hk⟩ : ∃ k : Nat, 1 + KP = (k : Int) := ⟨(1 + KP).toNat, by omega⟩
  have kb : 1 ≤ k ∧ k ≤ 64 := by omega
  have s2 : SH ≤ 8 := by omega
  have h0 := run_ok _ 3 3 [1, 2, 3] 0 768 _ (Row.lit w 3 [1, 2, 3] 3 rfl) (by omega) (by omega) (by decide) (by omega) (by decide) (by omega) (by omega) (by decide)
  simp only [List.map_cons, List.map_nil] at h0
  have h1 : ∀ A c w', InRow w' A k c (List.replicate k N) → _ := fun A c w' h => run_ok A k c (List.replicate k N) SH (256 * N) w' h.1 (by omega) h.2.1 h.2.2.1 (by omega) (rep_btw (by omega)) b3.1 s2 (frun_rep b3.1 s2 (by omega))
  have h2 : ∀ w', InRow w' a len cap l → _ := fun w' h => values_at a len cap l w' h ys n hy hn
  have H0 := Lib.hid h0
  have H1 := Lib.hid h1
  have HVal := Lib.hid h2
  have HIn := Lib.hid hin
  have HR := Lib.hid (fun w' b c (h : World.cell? w' ⟨b, 0, none⟩ = some (.int .i64 N)) => repeat_ok b c N k w' h kb.1 (by omega))
  have qa := alloc_cells
  have qf := alloc_frozens
  rcases Nat.eq_zero_or_pos n with hn0 | hn0
  · subst hn0
    clear h0 h1 h2 hin hb hn hy
    go_enter Try.func17, Try.ntmps17
    go_wp2_with fail
    refine (H0.out).mono ?_
    rintro e w' ⟨rfl, rfl⟩
    go_wp2_with fail
    refine (within_any p 16777217 N _ (by omega) (by omega) HN.out).mono ?_
    rintro e w' ⟨rfl, rfl⟩
    go_wp2_with fail
    refine (within_any q 64 KP _ (by omega) (by omega) HKP.out).mono ?_
    rintro e w' ⟨rfl, rfl⟩
    go_wp2_with fail
    refine (within_any r 9 SH _ (by omega) (by omega) HSH.out).mono ?_
    rintro e w' ⟨rfl, rfl⟩
    go_wp2_with fail
    refine (HR.out _ _ _ (cell_at_new (by simp) rfl)).mono ?_
    rintro e w1 ⟨A1, c9, rfl, hr1, hb1⟩
    have R1 := Lib.hid hr1
    clear hr1
    have z1 := hb1.size
    have c1 := Below.cells hb1
    have f1 := Below.frozens hb1
    try simp only [World.size_alloc, World.size_setCell, World.size_drew] at z1 c1 f1
    go_wp2_with fail
    refine (H1.out A1 c9 _ R1.out).mono ?_
    rintro e w' ⟨rfl, rfl⟩
    go_wp2_with fail
    refine (HVal.out _ (HIn.out.below (by repeat (first | (with_reducible exact Below.refl _ _) | ((with_reducible refine Below.alloc ?_ ?_ _); rotate_left; (next => ((try dsimp only); (try simp only [World.size_alloc, World.size_setCell, World.size_drew]); omega))) | ((with_reducible refine Below.setCell ?_ ?_ _); rotate_left; (next => ((try dsimp only); (try simp only [World.size_alloc, World.size_setCell, World.size_drew]); omega))) | (with_reducible refine Below.drew ?_) | ((with_reducible refine Below.trans ?_ (Below.mono hb1 ?_)); rotate_left; (next => ((try dsimp only); (try simp only [World.size_alloc, World.size_setCell, World.size_drew]); omega))))))).mono ?_
    rintro e w2 ⟨A, c, rfl, hrA, hb2⟩
    have RA := Lib.hid hrA.1
    have EA := Lib.hid hrA.1.each
    have IA := Lib.hid hrA
    have capA := hrA.2.1
    clear hrA
    have z2 := hb2.size
    have c2 := Below.cells hb2
    have f2 := Below.frozens hb2
    try simp only [World.size_alloc, World.size_setCell, World.size_drew] at z2 c2 f2
    go_wp2_with fail
    go_ret
    exact ⟨rfl, (by repeat (first | (with_reducible exact Below.refl _ _) | ((with_reducible refine Below.alloc ?_ ?_ _); rotate_left; (next => ((try dsimp only); (try simp only [World.size_alloc, World.size_setCell, World.size_drew]); omega))) | ((with_reducible refine Below.setCell ?_ ?_ _); rotate_left; (next => ((try dsimp only); (try simp only [World.size_alloc, World.size_setCell, World.size_drew]); omega))) | (with_reducible refine Below.drew ?_) | ((with_reducible refine Below.trans ?_ (Below.mono hb2 ?_)); rotate_left; (next => ((try dsimp only); (try simp only [World.size_alloc, World.size_setCell, World.size_drew]); omega))) | ((with_reducible refine Below.trans ?_ (Below.mono hb1 ?_)); rotate_left; (next => ((try dsimp only); (try simp only [World.size_alloc, World.size_setCell, World.size_drew]); omega)))))⟩
  · obtain ⟨M, hM⟩ := IsMax.ex (l := ys) (by omega)
    have hMb := hb M hM.1
    have hne : ((n : Int) == 0) = false := by simp; omega
    have b4 := within_bd s (n := 16777216 - M + 1) (by omega)
    obtain ⟨BY, e_BY⟩ : ∃ z_, within s (16777216 - M + 1) = z_ := ⟨_, rfl⟩
    rw [e_BY] at b4
    have HBY := Lib.hid e_BY
    clear e_BY
    obtain ⟨T, hT⟩ : ∃ T, addI BY ys = T := ⟨_, rfl⟩
    have tl : T.length = n := by rw [← hT, addI_len, hn]
    have tg : ∀ k, k < n → T.getD k 0 = ys.getD k 0 + BY := fun k hk => by rw [← hT]; exact addI_get (by omega)
    have tb : Btw 0 16777216 T := by
      rw [← hT]
      have hbm : Btw 0 M ys := fun x hx => ⟨(hb x hx).1, hM.2 x hx⟩
      exact (addI_btw hbm).mono (by omega) (by omega)
    obtain ⟨z, hz⟩ : ∃ z, ys.getD (n - 1) 0 = z := ⟨_, rfl⟩
    have zb := hb.get (k := n - 1) (by omega)
    rw [hz] at zb
    have f0 : frun 0 ys = 256 * z := by rw [frun_zero hn hn0, hz]
    obtain ⟨K, hK⟩ : ∃ K, frun SH ys = K := ⟨_, rfl⟩
    have kbd := frun_bd b3.1 s2 (l := ys) (by omega) hb
    rw [hK] at kbd
    have f2 : frun SH T = K + 256 * BY := by rw [← hT, frun_shift _ _ (by omega), hK]
    have h3 : ∀ A c w', InRow w' A n c ys → _ := fun A c w' h => run_ok A n c ys 0 (256 * z) w' h.1 hn0 h.2.1 h.2.2.1 hm hb (by omega) (by omega) f0
    have h4 : ∀ A c w', InRow w' A n c ys → _ := fun A c w' h => run_ok A n c ys SH K w' h.1 hn0 h.2.1 h.2.2.1 hm hb b3.1 s2 hK
    have h5 : ∀ A c w', InRow w' A n c T → _ := fun A c w' h => run_ok A n c T SH (K + 256 * BY) w' h.1 hn0 h.2.1 h.2.2.1 hm tb b3.1 s2 f2
    have h6 : ∀ A c w', Row w' A n ys → _ := fun A c w' h => max_ok A n c ys M w' h hn0 (by omega) hM
    have H3 := Lib.hid h3
    have H4 := Lib.hid h4
    have H5 := Lib.hid h5
    have H6 := Lib.hid h6
    have HTL := Lib.hid tl
    have HTG := Lib.hid tg
    have HB := Lib.hid hb
    have HNN := Lib.hid hn
    have HZ := Lib.hid hz
    obtain ⟨i0, hi, hz0, hz1, hz2⟩ := info_parts info_int
    clear h0 h1 h2 h3 h4 h5 h6 hin hb hn hy hM hT tl tg tb hz f0 hK f2
    go_enter Try.func17, Try.ntmps17
    go_wp2_with fail
    refine (H0.out).mono ?_
    rintro e w' ⟨rfl, rfl⟩
    go_wp2_with fail
    refine (within_any p 16777217 N _ (by omega) (by omega) HN.out).mono ?_
    rintro e w' ⟨rfl, rfl⟩
    go_wp2_with fail
    refine (within_any q 64 KP _ (by omega) (by omega) HKP.out).mono ?_
    rintro e w' ⟨rfl, rfl⟩
    go_wp2_with fail
    refine (within_any r 9 SH _ (by omega) (by omega) HSH.out).mono ?_
    rintro e w' ⟨rfl, rfl⟩
    go_wp2_with fail
    refine (HR.out _ _ _ (cell_at_new (by simp) rfl)).mono ?_
    rintro e w1 ⟨A1, c9, rfl, hr1, hb1⟩
    have R1 := Lib.hid hr1
    clear hr1
    have z1 := hb1.size
    have c1 := Below.cells hb1
    have f1 := Below.frozens hb1
    try simp only [World.size_alloc, World.size_setCell, World.size_drew] at z1 c1 f1
    go_wp2_with fail
    refine (H1.out A1 c9 _ R1.out).mono ?_
    rintro e w' ⟨rfl, rfl⟩
    go_wp2_with fail
    refine (HVal.out _ (HIn.out.below (by repeat (first | (with_reducible exact Below.refl _ _) | ((with_reducible refine Below.alloc ?_ ?_ _); rotate_left; (next => ((try dsimp only); (try simp only [World.size_alloc, World.size_setCell, World.size_drew]); omega))) | ((with_reducible refine Below.setCell ?_ ?_ _); rotate_left; (next => ((try dsimp only); (try simp only [World.size_alloc, World.size_setCell, World.size_drew]); omega))) | (with_reducible refine Below.drew ?_) | ((with_reducible refine Below.trans ?_ (Below.mono hb1 ?_)); rotate_left; (next => ((try dsimp only); (try simp only [World.size_alloc, World.size_setCell, World.size_drew]); omega))))))).mono ?_
    rintro e w2 ⟨A, c, rfl, hrA, hb2⟩
    have RA := Lib.hid hrA.1
    have EA := Lib.hid hrA.1.each
    have IA := Lib.hid hrA
    have capA := hrA.2.1
    clear hrA
    have z2 := hb2.size
    have c2 := Below.cells hb2
    have f2 := Below.frozens hb2
    try simp only [World.size_alloc, World.size_setCell, World.size_drew] at z2 c2 f2
    go_wp2_with fail
    refine (H6.out A c _ RA.out).mono ?_
    rintro e w' ⟨rfl, rfl⟩
    go_wp2_with fail
    refine (within_any s (16777216 - M + 1) BY _ (by omega) (by omega) HBY.out).mono ?_
    rintro e w' ⟨rfl, rfl⟩
    go_wp2_with fail
    have bel2 : Below w.heap.size w w2 := (by repeat (first | (with_reducible exact Below.refl _ _) | ((with_reducible refine Below.alloc ?_ ?_ _); rotate_left; (next => ((try dsimp only); (try simp only [World.size_alloc, World.size_setCell, World.size_drew]); omega))) | ((with_reducible refine Below.setCell ?_ ?_ _); rotate_left; (next => ((try dsimp only); (try simp only [World.size_alloc, World.size_setCell, World.size_drew]); omega))) | (with_reducible refine Below.drew ?_) | ((with_reducible refine Below.trans ?_ (Below.mono hb2 ?_)); rotate_left; (next => ((try dsimp only); (try simp only [World.size_alloc, World.size_setCell, World.size_drew]); omega))) | ((with_reducible refine Below.trans ?_ (Below.mono hb1 ?_)); rotate_left; (next => ((try dsimp only); (try simp only [World.size_alloc, World.size_setCell, World.size_drew]); omega)))))
    have HB2 := Lib.hid bel2
    clear bel2 qa qf c1 f1 c2 f2
    go_loopw [15, 72] (fun v i wr => ∃ k : Nat, k ≤ n ∧ i = .int .i64 k ∧ wr.ownsRow w2.heap.size 3 1 v k ((List.take k T).map (Value.int .i64)) ∧ Below w2.heap.size w2 wr) (fun _ i _ => n - (intOf i).toNat)
    case atStart => exact ⟨0, Nat.zero_le _, rfl, World.ownsRow_nil _ _ _ _, Below.refl _ _⟩
    case round =>
      obtain ⟨k, hk, rfl, hown, bel⟩ := hrel
      have hsz := bel.size
      by_cases hlt : k < n
      · obtain ⟨bky, offy, hAy, lty, hry⟩ := EA.out k hlt
        subst hAy
        replace hry := (bel.cell (p := ⟨bky, offy + k, none⟩) lty).trans hry
        obtain ⟨y, hvy, hxy⟩ := name_num hry
        have HY := Lib.hid hvy
        clear hvy hry
        have yb := HB.out.get (k := k) (by have := HNN.out; omega)
        rw [← HY.out] at yb
        have htk : List.take (k + 1) T = List.take k T ++ [y + BY] := by rw [take_snoc _ (by have := HTL.out; omega), HTG.out k hlt, ← HY.out]
        have HTK := Lib.hid htk
        clear htk
        go_wp2_with (at_builtin; (refine wpList_append_own _ rfl _ _ 28 rfl (w2.heap.size) 3 i0 (.int .i64 0) 1 8 Try.underlying28 hi hz0 hz1 hz2 rfl (by decide) _ _ _ rfl (World.ownsRow.alloc hown _) ⟨wr.heap.size, 0, none⟩ 1 1 [.int .i64 ((y + BY))] rfl rfl (app1_cells _ _ _) (app1_one _ _) (by unfold maxLen; omega) (by omega) (by simp; omega) ?_))
        intro vq wq ownq grq _
        have own2 : wq.ownsRow w2.heap.size 3 1 vq (k + 1) ((List.take (k + 1) T).map (Value.int .i64)) := by rw [HTK.out]; simpa [List.map_append, List.map_take] using ownq
        have bel2 := (bel.alloc hsz _).grown grq (by simp; omega) (fun g hg => (hown.lt g hg).1)
        have HO := Lib.hid own2
        clear ownq grq hown own2 bel
        go_wp2_with fail
        go_roundw
        case rel => exact ⟨k + 1, by omega, by go_num, HO.out, bel2⟩
        case measure => simp [intOf]; omega
      · obtain rfl : n = k := by omega
        rw [List.take_of_length_le (by have := HTL.out; omega)] at hown
        obtain ⟨A2, k2, rfl, q1, q2, q3⟩ := own_form hown
        have R2 := Lib.hid (show InRow wr A2 n k2 T from ⟨Row.of_own hown, q1, q2, q3⟩)
        have RI := Lib.hid (IA.out.below bel)
        obtain ⟨bz, offz, hAz, ltz, hcz⟩ := EA.out (n - 1) (by omega)
        subst hAz
        have hcz2 := (bel.cell (p := ⟨bz, offz + (n - 1), none⟩) ltz).trans hcz
        rw [HZ.out] at hcz2
        have hB := HB2.out.trans (bel.mono HB2.out.size)
        clear hown q3 bel hcz
        go_wp2_with fail
        refine (H3.out _ c _ RI.out).mono ?_
        rintro e w' ⟨rfl, rfl⟩
        go_wp2_with fail
        refine (H4.out _ c _ RI.out).mono ?_
        rintro e w' ⟨rfl, rfl⟩
        go_wp2_with fail
        refine (H5.out A2 k2 _ R2.out).mono ?_
        rintro e w' ⟨rfl, rfl⟩
        go_wp2_with fail
        go_ret
        exact ⟨rfl, hB⟩
end Go.Proofs.Ytamncanlbopehaa
