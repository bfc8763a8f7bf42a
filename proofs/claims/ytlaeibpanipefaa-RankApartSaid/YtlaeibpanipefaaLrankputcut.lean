import Derived.Test.YtlaeibpanipefaaPi
import Derived.Test.YtlaeibpanipefaaEq
import Derived.Test.YtlaeibpanipefaaVal
import Derived.Test.YtlaeibpanipefaaLranksorts
set_option linter.unusedSimpArgs false
set_option linter.unusedVariables false
namespace Go.Proofs.Ytlaeibpanipefaa
open Go.RowKit
theorem put_srt (A : Option Addr) (n c : Nat) (L M : List Int) (x : Int) (w : World) (hr : Row w A n (srt L)) (hm : n < 64) (hb : Btw 0 16777216 L) (hx : 0 ≤ x ∧ x ≤ 16777216) (hM : (x :: L).Perm M) :
    Calls Try.prog 39 #[.slice A n c, .int .i64 x] w fun e w' => ∃ A' c', e = .returned (.tuple #[.slice A' (n + 1) c', .int .i64 0]) ∧ Row w' A' (n + 1) (srt M) ∧ Below w.heap.size w w' := by
  rw [← srt_same hM, ← ins_srt x L]
  exact put_ok A n c (srt L) x _ w hr hm (fun y hy => hb y ((srt_perm L).mem_iff.1 hy)) (srt_sorted L) hx rfl
theorem cut_ins (A : Option Addr) (n c : Nat) (s : List Int) (x : Int) (I : Nat) (w : World) (hr : Row w A (n + 1) (ins I x s)) (hm : n < 64) (hb : Btw 0 16777216 s) (hx : 0 ≤ x ∧ x ≤ 16777216) (hs : s.Pairwise (· ≤ ·)) (hn : s.length = n) (hI : s.countP (· < x) = I) :
    Calls Try.prog 37 #[.slice A (n + 1) c, .int .i64 x] w fun e w' => ∃ A' c', e = .returned (.tuple #[.slice A' n c', .int .i64 0]) ∧ Row w' A' n s ∧ Below w.heap.size w w' := by
  have hIn : I ≤ n := by rw [← hI, ← hn]; exact List.countP_le_length
  have h := cut_ok A (n + 1) c (ins I x s) x I w hr (by omega) (fun y hy => by
    rcases List.mem_cons.1 ((ins_perm I x s).mem_iff.1 hy) with rfl | h
    · exact hx
    · exact hb y h) (by rw [← hI]; exact ins_sorted x s hs) ((ins_perm I x s).mem_iff.2 (by simp)) (by rw [ins_count]; exact hI) (by omega)
  rw [del_ins I x s (by omega)] at h
  exact h

set_option maxRecDepth 100000 in
set_option maxHeartbeats 16000000 in
theorem rankPutCut_walk (a : Option Addr) (len cap : Nat) (l : List Int) (p : Int) (w : World) (hin : InRow w a len cap l) (_ : (Lit.int .i64 p).wf = true) :
    Calls Try.prog 13 #[.slice a len cap, .int .i64 p] w fun e w' =>
      e = .returned (.bool true) ∧ Below w.heap.size w w' := by
  obtain ⟨ys, n, hy, hn, hm, hb⟩ := vals_facts l
  have hlv : ∀ w', InRow w' a len cap l → _ := fun w' h => values_at a len cap l w' h ys n hy hn
  have b1 := within_bd p (n := 16777217) (by omega)
  obtain ⟨P, e_P⟩ : ∃ z_, within p 16777217 = z_ := ⟨_, rfl⟩
  rw [e_P] at b1
  have HP := Lib.hid e_P
  clear e_P
  have pb : 0 ≤ P ∧ P ≤ 16777216 := by omega
  obtain ⟨s, hs⟩ : ∃ s, srt ys = s := ⟨_, rfl⟩
  have hsn : s.length = n := by rw [← hs, srt_len, hn]
  have hsb : Btw 0 16777216 s := fun x hx => hb x ((srt_perm ys).mem_iff.1 (hs ▸ hx))
  have hsp : s.Pairwise (· ≤ ·) := by rw [← hs]; exact srt_sorted ys
  obtain ⟨I, hI⟩ : ∃ I, s.countP (· < P) = I := ⟨_, rfl⟩
  have hs0 := put_ok _ 2 2 [1, 3] 2 1 _ (Row.lit w 3 [1, 3] 2 rfl) (by omega) (by decide) (by decide) (by omega) (by decide)
  simp only [List.map_cons, List.map_nil] at hs0
  have hs1 : ∀ A c A' c' w', Row w' A (2 + 1) (ins 1 2 [1, 3]) → Row w' A' 3 [1, 2, 3] → _ := fun A c A' c' w' h h' => equal_ok A A' 3 c 3 c' [1, 2, 3] w' h h' (by omega)
  have hs2 : ∀ A c w', Row w' A n ys → _ := fun A c w' h => sort_row A n c ys s w' h hm hb hs
  have hs5 : ∀ A c A' c' w', Row w' A n s → Row w' A' n s → _ := fun A c A' c' w' h h' => equal_ok A A' n c n c' s w' h h' (by omega)
  have hs3 : ∀ A c w', n < 64 → Row w' A n s → _ := fun A c w' h' h => put_ok A n c s P I w' h h' hsb hsp pb hI
  have hs4 : ∀ A c w', n < 64 → Row w' A (n + 1) (ins I P s) → _ := fun A c w' h' h => cut_ins A n c s P I w' h h' hsb pb hsp hsn hI
  have hput : ∀ k A c x w', k < n → ys.getD k 0 = x → Row w' A k (srt (ys.take k)) → Calls Try.prog 39 #[.slice A k c, .int .i64 x] w' fun e w'' => ∃ A' c', e = .returned (.tuple #[.slice A' (k + 1) c', .int .i64 0]) ∧ Row w'' A' (k + 1) (srt (ys.take (k + 1))) ∧ Below w'.heap.size w' w'' := fun k A c x w' hk hx h =>
    put_srt A k c (ys.take k) _ x w' h (by omega) (fun y hy => hb y (List.mem_of_mem_take hy)) (hx ▸ hb.get (k := k) (by omega)) (by rw [take_snoc _ (by omega), hx]; exact List.perm_append_comm (l₁ := [x]))
  have hend : ys.take n = ys := List.take_of_length_le (by omega)
  have HLv := Lib.hid hlv
  have HIn := Lib.hid hin
  have HS0 := Lib.hid hs0
  have HS1 := Lib.hid hs1
  have HS2 := Lib.hid hs2
  have HS3 := Lib.hid hs3
  have HS4 := Lib.hid hs4
  have HS5 := Lib.hid hs5
  have HPut := Lib.hid hput
  have HEnd := Lib.hid hend
  have HSS := Lib.hid hs
  have qa := alloc_cells
  have qf := alloc_frozens
  clear hlv hs0 hs1 hs2 hs3 hs4 hs5 hput hend hin hn hy hb hs hsn hsb hsp hI
  go_enter Try.func13, Try.ntmps13
  go_wp2_with fail
  refine HS0.out.mono ?_
  rintro e w1 ⟨A1, k1, rfl, r1, hb1⟩
  have R1 := Lib.hid r1
  have z1 := hb1.size
  simp only [World.size_alloc] at z1
  clear r1
  go_wp2_with fail
  refine (HS1.out A1 k1 _ 3 _ (R1.out.below ((Below.refl _ _).alloc (Nat.le_refl _) _)) (Row.lit w1 3 [1, 2, 3] 3 rfl)).mono ?_
  rintro e w2 ⟨rfl, hb2⟩
  have z2 := hb2.size
  have c2 := Below.cells hb2
  have f2 := Below.frozens hb2
  try simp only [World.size_alloc, World.size_setCell, World.size_drew] at z2 c2 f2
  go_wp2_with fail
  refine (HLv.out _ (HIn.out.below (by repeat (first | (with_reducible exact Below.refl _ _) | ((with_reducible refine Below.alloc ?_ ?_ _); rotate_left; (next => ((try dsimp only); (try simp only [World.size_alloc, World.size_setCell, World.size_drew]); omega))) | ((with_reducible refine Below.setCell ?_ ?_ _); rotate_left; (next => ((try dsimp only); (try simp only [World.size_alloc, World.size_setCell, World.size_drew]); omega))) | (with_reducible refine Below.drew ?_) | ((with_reducible refine Below.trans ?_ (Below.mono hb2 ?_)); rotate_left; (next => ((try dsimp only); (try simp only [World.size_alloc, World.size_setCell, World.size_drew]); omega))) | ((with_reducible refine Below.trans ?_ (Below.mono hb1 ?_)); rotate_left; (next => ((try dsimp only); (try simp only [World.size_alloc, World.size_setCell, World.size_drew]); omega))))))).mono ?_
  rintro e w3 ⟨A2, cap2, rfl, hrA2, hb3⟩
  have RA2 := Lib.hid hrA2.1
  have EA2 := Lib.hid hrA2.1.each
  have IA2 := Lib.hid hrA2
  have capA2 := hrA2.2.1
  clear hrA2
  have z3 := hb3.size
  have c3 := Below.cells hb3
  have f3 := Below.frozens hb3
  try simp only [World.size_alloc, World.size_setCell, World.size_drew] at z3 c3 f3
  go_wp2_with fail
  refine (within_any p 16777217 P _ (by omega) (by omega) HP.out).mono ?_
  rintro e w' ⟨rfl, rfl⟩
  go_wp2_with fail
  have bel0 : Below w.heap.size w w3 := (by repeat (first | (with_reducible exact Below.refl _ _) | ((with_reducible refine Below.alloc ?_ ?_ _); rotate_left; (next => ((try dsimp only); (try simp only [World.size_alloc, World.size_setCell, World.size_drew]); omega))) | ((with_reducible refine Below.setCell ?_ ?_ _); rotate_left; (next => ((try dsimp only); (try simp only [World.size_alloc, World.size_setCell, World.size_drew]); omega))) | (with_reducible refine Below.drew ?_) | ((with_reducible refine Below.trans ?_ (Below.mono hb3 ?_)); rotate_left; (next => ((try dsimp only); (try simp only [World.size_alloc, World.size_setCell, World.size_drew]); omega))) | ((with_reducible refine Below.trans ?_ (Below.mono hb2 ?_)); rotate_left; (next => ((try dsimp only); (try simp only [World.size_alloc, World.size_setCell, World.size_drew]); omega))) | ((with_reducible refine Below.trans ?_ (Below.mono hb1 ?_)); rotate_left; (next => ((try dsimp only); (try simp only [World.size_alloc, World.size_setCell, World.size_drew]); omega)))))
  have z0 := bel0.size
  have HE := Lib.hid RA2.out.each
  clear c2 f2 c3 f3 EA2 IA2 hb1 hb2 hb3
  go_loopw [7, 37] (fun v i wr => ∃ (k : Nat) (Ak : Option Addr) (ck : Nat), k ≤ n ∧ i = .int .i64 k ∧ v = .slice Ak k ck ∧ Row wr Ak k (srt (ys.take k)) ∧ Below w3.heap.size w3 wr) (fun _ i _ => n - (intOf i).toNat)
  case atStart => exact ⟨0, none, 0, Nat.zero_le _, rfl, rfl, ⟨by rw [srt_len]; simp, fun h => absurd h (Nat.lt_irrefl 0)⟩, Below.refl _ _⟩
  case round =>
    obtain ⟨k, Ak, ck, hk, rfl, rfl, hrow, bel⟩ := hrel
    have hsz := bel.size
    by_cases hlt : k < n
    · obtain ⟨bkx0, offx0, hAx0, ltx0, hrx0⟩ := HE.out k hlt
      subst hAx0
      replace hrx0 := (bel.cell (p := ⟨bkx0, offx0 + k, none⟩) ltx0).trans hrx0
      obtain ⟨x0, hvx0, hxx0⟩ := name_num hrx0
      have Hx0 := Lib.hid hvx0
      clear hvx0 hrx0
      have HRow := Lib.hid hrow
      clear hrow
      go_wp2_with fail
      refine (HPut.out k Ak ck x0 _ hlt Hx0.out.symm HRow.out).mono ?_
      rintro e wq ⟨Aq, cq, rfl, rq, hbq⟩
      have Rq := Lib.hid rq
      have bel2 : Below w3.heap.size w3 wq := bel.trans (hbq.mono hsz)
      clear rq hxx0
      go_wp2_with fail
      go_roundw
      case rel => first | exact ⟨k + 1, Aq, cq, by omega, by go_num, rfl, Rq.out, bel2⟩ | ((repeat apply Exists.intro); exact ⟨⟨k + 1, Aq, cq, by omega, by go_num, rfl, Rq.out, bel2⟩, rfl⟩)
      case measure => simp [intOf]; omega
    · obtain rfl : n = k := by omega
      rw [HEnd.out, HSS.out] at hrow
      obtain ⟨w4, rfl⟩ : ∃ z : World, z = wr := ⟨_, rfl⟩
      have R4 := Lib.hid hrow
      have RY := Lib.hid (RA2.out.below bel)
      clear hrow hlt hk
      have z4 := hsz
      go_wp2_with fail
      refine (HS2.out _ _ _ RY.out).mono ?_
      rintro e w5 ⟨A5, cap5, rfl, hin5, hb5⟩
      have R5 := Lib.hid hin5.1
      have z5 := hb5.size
      clear hin5
      go_wp2_with fail
      have bel5 : Below w.heap.size w w5 := bel0.trans (Below.mono (bel.trans (hb5.mono z4)) z0)
      have R45 := Lib.hid (R4.out.below hb5)
      have z05 := bel5.size
      by_cases h64 : n = 64
      · have h64' : ((n : Int) == 64) = true := by simp; omega
        have h64'' : (n : Int) = 64 := by omega
        refine (HS5.out _ _ _ _ _ R45.out R5.out).mono ?_
        rintro e w6 ⟨rfl, hb6⟩
        have z6 := hb6.size
        have c6 := Below.cells hb6
        have f6 := Below.frozens hb6
        try simp only [World.size_alloc, World.size_setCell, World.size_drew] at z6 c6 f6
        go_wp2_with fail
        go_ret
        exact ⟨rfl, bel5.trans (hb6.mono z05)⟩
      · have h64' : ((n : Int) == 64) = false := by simp; omega
        have h64'' : ¬ (n : Int) = 64 := by omega
        have hn64 : n < 64 := by omega
        refine (HS5.out _ _ _ _ _ R45.out R5.out).mono ?_
        rintro e w6 ⟨rfl, hb6⟩
        have z6 := hb6.size
        have c6 := Below.cells hb6
        have f6 := Below.frozens hb6
        try simp only [World.size_alloc, World.size_setCell, World.size_drew] at z6 c6 f6
        go_wp2_with fail
        have R6 := Lib.hid (R45.out.below hb6)
        refine (HS3.out _ _ _ hn64 R6.out).mono ?_
        rintro e w7 ⟨A7, k7, rfl, r7, hb7⟩
        have R7 := Lib.hid r7
        have z7 := hb7.size
        clear r7 c6 f6
        go_wp2_with fail
        refine (HS4.out _ _ _ hn64 R7.out).mono ?_
        rintro e w8 ⟨A8, k8, rfl, r8, hb8⟩
        have R8 := Lib.hid r8
        have z8 := hb8.size
        clear r8
        go_wp2_with fail
        refine (HS5.out _ _ _ _ _ R8.out ((R6.out.below hb7).below hb8)).mono ?_
        rintro e w9 ⟨rfl, hb9⟩
        have z9 := hb9.size
        have c9 := Below.cells hb9
        have f9 := Below.frozens hb9
        try simp only [World.size_alloc, World.size_setCell, World.size_drew] at z9 c9 f9
        go_wp2_with fail
        go_ret
        have bel9 : Below w5.heap.size w5 w9 := (by repeat (first | (with_reducible exact Below.refl _ _) | ((with_reducible refine Below.alloc ?_ ?_ _); rotate_left; (next => ((try dsimp only); (try simp only [World.size_alloc, World.size_setCell, World.size_drew]); omega))) | ((with_reducible refine Below.setCell ?_ ?_ _); rotate_left; (next => ((try dsimp only); (try simp only [World.size_alloc, World.size_setCell, World.size_drew]); omega))) | (with_reducible refine Below.drew ?_) | ((with_reducible refine Below.trans ?_ (Below.mono hb9 ?_)); rotate_left; (next => ((try dsimp only); (try simp only [World.size_alloc, World.size_setCell, World.size_drew]); omega))) | ((with_reducible refine Below.trans ?_ (Below.mono hb8 ?_)); rotate_left; (next => ((try dsimp only); (try simp only [World.size_alloc, World.size_setCell, World.size_drew]); omega))) | ((with_reducible refine Below.trans ?_ (Below.mono hb7 ?_)); rotate_left; (next => ((try dsimp only); (try simp only [World.size_alloc, World.size_setCell, World.size_drew]); omega))) | ((with_reducible refine Below.trans ?_ (Below.mono hb6 ?_)); rotate_left; (next => ((try dsimp only); (try simp only [World.size_alloc, World.size_setCell, World.size_drew]); omega)))))
        exact ⟨by simp, bel5.trans (bel9.mono z05)⟩
end Go.Proofs.Ytlaeibpanipefaa
