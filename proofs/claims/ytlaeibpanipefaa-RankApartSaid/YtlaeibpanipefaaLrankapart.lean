import Derived.Test.YtlaeibpanipefaaVw
import Derived.Test.YtlaeibpanipefaaLrankputcut
set_option linter.unusedSimpArgs false
set_option linter.unusedVariables false
namespace Go.Proofs.Ytlaeibpanipefaa
open Go.RowKit
set_option maxRecDepth 100000 in
set_option maxHeartbeats 16000000 in
theorem rankApart_walk (a : Option Addr) (len cap : Nat) (l : List Int) (p q : Int) (w : World) (hin : InRow w a len cap l) (_ : (Lit.int .i64 p).wf = true) (_ : (Lit.int .i64 q).wf = true) :
    Calls Try.prog 12 #[.slice a len cap, .int .i64 p, .int .i64 q] w fun e w' =>
      e = .returned (.bool true) ∧ Below w.heap.size w w' := by
  obtain ⟨ys, n, hy, hn, hm, hb⟩ := vals_facts l
  have hlv : ∀ w', InRow w' a len cap l → _ := fun w' h => values_own a len cap l w' h ys n hy hn
  have b1 := within_bd p (n := 16777217) (by omega)
  obtain ⟨P, e_P⟩ : ∃ z_, within p 16777217 = z_ := ⟨_, rfl⟩
  rw [e_P] at b1
  have HP := Lib.hid e_P
  clear e_P
  have b2 := within_bd q (n := 16777217) (by omega)
  obtain ⟨Q, e_Q⟩ : ∃ z_, within q 16777217 = z_ := ⟨_, rfl⟩
  rw [e_Q] at b2
  have HQ := Lib.hid e_Q
  clear e_Q
  have pb : 0 ≤ P ∧ P ≤ 16777216 := by omega
  have qb : 0 ≤ Q ∧ Q ≤ 16777216 := by omega
  have hst : ∀ A c base (w' : World), w'.ownsRow base 3 1 (.slice A n c) n (ys.map (Value.int .i64)) → _ := fun A c base w' h => sort_in A n c base ys w' h (by omega)
  obtain ⟨m, hmin⟩ : ∃ m : Nat, min (n : Int) 62 = (m : Int) := ⟨min n 62, by omega⟩
  have hmn : m ≤ n := by omega
  have hm62 : m ≤ 62 := by omega
  obtain ⟨L, hL⟩ : ∃ L, (srt ys).take m = L := ⟨_, rfl⟩
  have hLn : L.length = m := by rw [← hL, List.length_take, srt_len, hn]; omega
  have hLs : L.Pairwise (· ≤ ·) := by rw [← hL]; exact (srt_sorted ys).sublist (List.take_sublist _ _)
  have hLL : srt L = L := srt_eq hLs (List.Perm.refl _)
  have hLb : Btw 0 16777216 L := fun x hx => hb x ((srt_perm ys).mem_iff.1 (List.mem_of_mem_take (hL ▸ hx)))
  have consB : ∀ (x : Int) (M : List Int), (0 ≤ x ∧ x ≤ 16777216) → Btw 0 16777216 M → Btw 0 16777216 (x :: M) := fun x M hx hM y hy => by
    rcases List.mem_cons.1 hy with rfl | h
    · exact hx
    · exact hM y h
  obtain ⟨sa, hsa⟩ : ∃ s, srt (P :: L) = s := ⟨_, rfl⟩
  obtain ⟨sb, hsb⟩ : ∃ s, srt (Q :: L) = s := ⟨_, rfl⟩
  obtain ⟨sc, hsc⟩ : ∃ s, srt (P :: Q :: L) = s := ⟨_, rfl⟩
  obtain ⟨I, hI⟩ : ∃ I, sb.countP (· < P) = I := ⟨_, rfl⟩
  have hins : ins I P sb = sc := by rw [← hI, ← hsb, ← hsc]; exact ins_srt P (Q :: L)
  have hs0 := cut_ok _ 3 3 [2, 2, 3] 2 0 _ (Row.lit w 3 [2, 2, 3] 3 rfl) (by omega) (by decide) (by decide) (by decide) (by decide) (by omega)
  simp only [List.map_cons, List.map_nil] at hs0
  have hs1 : ∀ A c A' c' w', Row w' A (3 - 1) (del 0 [2, 2, 3]) → Row w' A' 2 [2, 3] → _ := fun A c A' c' w' h h' => equal_ok A A' 2 c 2 c' [2, 3] w' h h' (by omega)
  have hpa : ∀ A c w', Row w' A m L → Calls Try.prog 39 #[.slice A m c, .int .i64 P] w' fun e w'' => ∃ A' c', e = .returned (.tuple #[.slice A' (m + 1) c', .int .i64 0]) ∧ Row w'' A' (m + 1) sa ∧ Below w'.heap.size w' w'' := fun A c w' h =>
    hsa ▸ put_srt A m c L _ P w' (hLL.symm ▸ h) (by omega) hLb pb (List.Perm.refl _)
  have hpb : ∀ A c w', Row w' A m L → Calls Try.prog 39 #[.slice A m c, .int .i64 Q] w' fun e w'' => ∃ A' c', e = .returned (.tuple #[.slice A' (m + 1) c', .int .i64 0]) ∧ Row w'' A' (m + 1) sb ∧ Below w'.heap.size w' w'' := fun A c w' h =>
    hsb ▸ put_srt A m c L _ Q w' (hLL.symm ▸ h) (by omega) hLb qb (List.Perm.refl _)
  have hpab : ∀ A c w', Row w' A (m + 1) sa → Calls Try.prog 39 #[.slice A (m + 1) c, .int .i64 Q] w' fun e w'' => ∃ A' c', e = .returned (.tuple #[.slice A' (m + 1 + 1) c', .int .i64 0]) ∧ Row w'' A' (m + 1 + 1) sc ∧ Below w'.heap.size w' w'' := fun A c w' h =>
    hsc ▸ put_srt A (m + 1) c (P :: L) _ Q w' (hsa.symm ▸ h) (by omega) (consB _ _ pb hLb) qb (List.Perm.swap _ _ _)
  have hpba : ∀ A c w', Row w' A (m + 1) sb → Calls Try.prog 39 #[.slice A (m + 1) c, .int .i64 P] w' fun e w'' => ∃ A' c', e = .returned (.tuple #[.slice A' (m + 1 + 1) c', .int .i64 0]) ∧ Row w'' A' (m + 1 + 1) sc ∧ Below w'.heap.size w' w'' := fun A c w' h =>
    hsc ▸ put_srt A (m + 1) c (Q :: L) _ P w' (hsb.symm ▸ h) (by omega) (consB _ _ qb hLb) pb (List.Perm.refl _)
  have hbn : sb.length = m + 1 := by rw [← hsb, srt_len]; simp [hLn]
  have hbs : sb.Pairwise (· ≤ ·) := by rw [← hsb]; exact srt_sorted _
  have hbb : Btw 0 16777216 sb := fun x hx => consB _ _ qb hLb x ((srt_perm _).mem_iff.1 (hsb ▸ hx))
  have hcut : ∀ A c w', Row w' A (m + 1 + 1) sc → Calls Try.prog 37 #[.slice A (m + 1 + 1) c, .int .i64 P] w' fun e w'' => ∃ A' c', e = .returned (.tuple #[.slice A' (m + 1) c', .int .i64 0]) ∧ Row w'' A' (m + 1) sb ∧ Below w'.heap.size w' w'' := fun A c w' h =>
    cut_ins A (m + 1) c sb P I w' (hins.symm ▸ h) (by omega) hbb pb hbs hbn hI
  have heqc : ∀ A c A' c' w', Row w' A (m + 1 + 1) sc → Row w' A' (m + 1 + 1) sc → _ := fun A c A' c' w' h h' => equal_ok A A' (m + 1 + 1) c (m + 1 + 1) c' sc w' h h' (by omega)
  have heqb : ∀ A c A' c' w', Row w' A (m + 1) sb → Row w' A' (m + 1) sb → _ := fun A c A' c' w' h h' => equal_ok A A' (m + 1) c (m + 1) c' sb w' h h' (by omega)
  have HLv := Lib.hid hlv
  have HIn := Lib.hid hin
  have HSt := Lib.hid hst
  have HL := Lib.hid hL
  have HS0 := Lib.hid hs0
  have HS1 := Lib.hid hs1
  have HPa := Lib.hid hpa
  have HPb := Lib.hid hpb
  have HPab := Lib.hid hpab
  have HPba := Lib.hid hpba
  have HCut := Lib.hid hcut
  have HEc := Lib.hid heqc
  have HEb := Lib.hid heqb
  have qa := alloc_cells
  have qf := alloc_frozens
  clear hlv hst hL hLn hLs hLL hLb consB hsa hsb hsc hI hins hs0 hs1 hpa hpb hpab hpba hbn hbs hbb hcut heqc heqb hin hn hy hb
  have m1 : (m : Int) ≤ n := by omega
  have m2 : (0 : Int) ≤ m := by omega
  go_enter Try.func12, Try.ntmps12
  go_wp2_with fail
  refine HS0.out.mono ?_
  rintro e w1 ⟨A1, k1, rfl, r1, hb1⟩
  have R1 := Lib.hid r1
  have z1 := hb1.size
  simp only [World.size_alloc] at z1
  clear r1
  go_wp2_with fail
  refine (HS1.out A1 k1 _ 2 _ (R1.out.below ((Below.refl _ _).alloc (Nat.le_refl _) _)) (Row.lit w1 3 [2, 3] 2 rfl)).mono ?_
  rintro e w2 ⟨rfl, hb2⟩
  have z2 := hb2.size
  have c2 := Below.cells hb2
  have f2 := Below.frozens hb2
  try simp only [World.size_alloc, World.size_setCell, World.size_drew] at z2 c2 f2
  go_wp2_with fail
  refine (HLv.out _ (HIn.out.below (by repeat (first | (with_reducible exact Below.refl _ _) | ((with_reducible refine Below.alloc ?_ ?_ _); rotate_left; (next => ((try dsimp only); (try simp only [World.size_alloc, World.size_setCell, World.size_drew]); omega))) | ((with_reducible refine Below.setCell ?_ ?_ _); rotate_left; (next => ((try dsimp only); (try simp only [World.size_alloc, World.size_setCell, World.size_drew]); omega))) | (with_reducible refine Below.drew ?_) | ((with_reducible refine Below.trans ?_ (Below.mono hb2 ?_)); rotate_left; (next => ((try dsimp only); (try simp only [World.size_alloc, World.size_setCell, World.size_drew]); omega))) | ((with_reducible refine Below.trans ?_ (Below.mono hb1 ?_)); rotate_left; (next => ((try dsimp only); (try simp only [World.size_alloc, World.size_setCell, World.size_drew]); omega))))))).mono ?_
  rintro e w3 ⟨A3, c3, rfl, o3, hb3⟩
  have O3 := Lib.hid o3
  have z3 := hb3.size
  clear o3 c2 f2
  go_wp2_with fail
  refine (within_any p 16777217 P _ (by omega) (by omega) HP.out).mono ?_
  rintro e w' ⟨rfl, rfl⟩
  go_wp2_with fail
  refine (within_any q 16777217 Q _ (by omega) (by omega) HQ.out).mono ?_
  rintro e w' ⟨rfl, rfl⟩
  go_wp2_with fail
  refine (HSt.out _ _ _ _ O3.out).mono ?_
  rintro e w4 ⟨rfl, o4, hb4⟩
  have bel4 : Below w2.heap.size w2 w4 := hb3.trans hb4
  have hb4x := bel4
  have z4 := bel4.size
  obtain ⟨A4, c4', e4, q1, q2, q3⟩ := own_form o4
  injection e4 with e4 _ e4'
  subst e4 e4'
  have R4 := Lib.hid (show Row w4 A3 m L from HL.out ▸ (Row.of_own o4).take hmn)
  have m3 : (m : Int) ≤ c3 := by omega
  clear o4 O3 hb3 hb4
  have hb4 := hb4x
  go_wp2_with fail
  refine (HPa.out _ _ _ R4.out).mono ?_
  rintro e w5 ⟨A5, k5, rfl, r5, hb5⟩
  have R5 := Lib.hid r5
  have z5 := hb5.size
  clear r5
  go_wp2_with fail
  refine (HPab.out _ _ _ R5.out).mono ?_
  rintro e w6 ⟨A6, k6, rfl, r6, hb6⟩
  have R6 := Lib.hid r6
  have z6 := hb6.size
  clear r6
  go_wp2_with fail
  refine (HPb.out _ _ _ ((R4.out.below hb5).below hb6)).mono ?_
  rintro e w7 ⟨A7, k7, rfl, r7, hb7⟩
  have R7 := Lib.hid r7
  have z7 := hb7.size
  clear r7
  go_wp2_with fail
  refine (HPba.out _ _ _ R7.out).mono ?_
  rintro e w8 ⟨A8, k8, rfl, r8, hb8⟩
  have R8 := Lib.hid r8
  have z8 := hb8.size
  clear r8
  go_wp2_with fail
  refine (HCut.out _ _ _ ((R6.out.below hb7).below hb8)).mono ?_
  rintro e w9 ⟨A9, k9, rfl, r9, hb9⟩
  have R9 := Lib.hid r9
  have z9 := hb9.size
  clear r9
  go_wp2_with fail
  refine (HPb.out _ _ _ (((((R4.out.below hb5).below hb6).below hb7).below hb8).below hb9)).mono ?_
  rintro e w10 ⟨A10, k10, rfl, r10, hb10⟩
  have R10 := Lib.hid r10
  have z10 := hb10.size
  clear r10
  go_wp2_with fail
  refine (HEc.out _ _ _ _ _ ((((R6.out.below hb7).below hb8).below hb9).below hb10) ((R8.out.below hb9).below hb10)).mono ?_
  rintro e w11 ⟨rfl, hb11⟩
  have z11 := hb11.size
  have c11 := Below.cells hb11
  have f11 := Below.frozens hb11
  try simp only [World.size_alloc, World.size_setCell, World.size_drew] at z11 c11 f11
  go_wp2_with fail
  refine (HEb.out _ _ _ _ _ ((R9.out.below hb10).below hb11) (R10.out.below hb11)).mono ?_
  rintro e w12 ⟨rfl, hb12⟩
  have z12 := hb12.size
  have c12 := Below.cells hb12
  have f12 := Below.frozens hb12
  try simp only [World.size_alloc, World.size_setCell, World.size_drew] at z12 c12 f12
  go_wp2_with fail
  go_ret
  exact ⟨by simp, (by repeat (first | (with_reducible exact Below.refl _ _) | ((with_reducible refine Below.alloc ?_ ?_ _); rotate_left; (next => ((try dsimp only); (try simp only [World.size_alloc, World.size_setCell, World.size_drew]); omega))) | ((with_reducible refine Below.setCell ?_ ?_ _); rotate_left; (next => ((try dsimp only); (try simp only [World.size_alloc, World.size_setCell, World.size_drew]); omega))) | (with_reducible refine Below.drew ?_) | ((with_reducible refine Below.trans ?_ (Below.mono hb12 ?_)); rotate_left; (next => ((try dsimp only); (try simp only [World.size_alloc, World.size_setCell, World.size_drew]); omega))) | ((with_reducible refine Below.trans ?_ (Below.mono hb11 ?_)); rotate_left; (next => ((try dsimp only); (try simp only [World.size_alloc, World.size_setCell, World.size_drew]); omega))) | ((with_reducible refine Below.trans ?_ (Below.mono hb10 ?_)); rotate_left; (next => ((try dsimp only); (try simp only [World.size_alloc, World.size_setCell, World.size_drew]); omega))) | ((with_reducible refine Below.trans ?_ (Below.mono hb9 ?_)); rotate_left; (next => ((try dsimp only); (try simp only [World.size_alloc, World.size_setCell, World.size_drew]); omega))) | ((with_reducible refine Below.trans ?_ (Below.mono hb8 ?_)); rotate_left; (next => ((try dsimp only); (try simp only [World.size_alloc, World.size_setCell, World.size_drew]); omega))) | ((with_reducible refine Below.trans ?_ (Below.mono hb7 ?_)); rotate_left; (next => ((try dsimp only); (try simp only [World.size_alloc, World.size_setCell, World.size_drew]); omega))) | ((with_reducible refine Below.trans ?_ (Below.mono hb6 ?_)); rotate_left; (next => ((try dsimp only); (try simp only [World.size_alloc, World.size_setCell, World.size_drew]); omega))) | ((with_reducible refine Below.trans ?_ (Below.mono hb5 ?_)); rotate_left; (next => ((try dsimp only); (try simp only [World.size_alloc, World.size_setCell, World.size_drew]); omega))) | ((with_reducible refine Below.trans ?_ (Below.mono hb4 ?_)); rotate_left; (next => ((try dsimp only); (try simp only [World.size_alloc, World.size_setCell, World.size_drew]); omega))) | ((with_reducible refine Below.trans ?_ (Below.mono hb2 ?_)); rotate_left; (next => ((try dsimp only); (try simp only [World.size_alloc, World.size_setCell, World.size_drew]); omega))) | ((with_reducible refine Below.trans ?_ (Below.mono hb1 ?_)); rotate_left; (next => ((try dsimp only); (try simp only [World.size_alloc, World.size_setCell, World.size_drew]); omega)))))⟩
end Go.Proofs.Ytlaeibpanipefaa
