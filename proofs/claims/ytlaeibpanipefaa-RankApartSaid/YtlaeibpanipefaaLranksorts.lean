import Derived.Test.YtlaeibpanipefaaLranknear
import Derived.Test.YtlaeibpanipefaaIs
set_option linter.unusedSimpArgs false
set_option linter.unusedVariables false
namespace Go.Proofs.Ytlaeibpanipefaa
open Go.RowKit
theorem srt_srt (l : List Int) : srt (srt l) = srt l := srt_same (srt_perm l)
theorem rot_perm (l : List Int) (t : Nat) : (l.drop t ++ l.take t).Perm l := List.perm_append_comm.trans (by rw [List.take_append_drop])
theorem rot_get (l : List Int) {t k n : Nat} (hn : l.length = n) (ht : t < n) (hk : k < n) : (l.drop t ++ l.take t).getD k 0 = l.getD ((k + t) % n) 0 := by
  by_cases h : k + t < n
  · rw [Nat.mod_eq_of_lt h]
    simp [List.getD, List.getElem?_append, List.getElem?_drop, show k < l.length - t by omega, Nat.add_comm, show t + k < l.length by omega]
  · have e : (k + t) % n = k + t - n := by rw [Nat.mod_eq_sub_mod (by omega), Nat.mod_eq_of_lt (by omega)]
    rw [e]
    simp only [List.getD, List.getElem?_append, List.length_drop, show ¬ k < l.length - t by omega, if_false, List.getElem?_take, show k - (l.length - t) < t by omega, if_true]
    rw [show k - (l.length - t) = k + t - n by omega]
theorem sort_row (A : Option Addr) (n c : Nat) (l s : List Int) (w : World) (hr : Row w A n l) (hm : n ≤ 64) (hb : Btw 0 16777216 l) (hs : srt l = s) :
    Calls Try.prog 20 #[.slice A n c] w fun e w' => ∃ A' c', e = .returned (.tuple #[.slice A' n c', .int .i64 0]) ∧ InRow w' A' n c' s ∧ Below w.heap.size w w' := by
  subst hs
  exact (sort_ok A n c l w hr hm hb).mono fun e w' ⟨A', c', h1, h2, _, h4⟩ => ⟨A', c', h1, h2, h4⟩

def ceq (v : Int) (l : List Int) : Int := cnt v l - cnt (v + 1) l
theorem ceq_snoc (v : Int) (l : List Int) {k : Nat} (h : k < l.length) : ceq v (l.take (k + 1)) = ceq v (l.take k) + if l.getD k 0 = v then 1 else 0 := by
  unfold ceq
  rw [cnt_snoc v l h, cnt_snoc (v + 1) l h]
  split <;> split <;> split <;> omega
theorem ceq_bd (v : Int) (l : List Int) : 0 ≤ ceq v l ∧ ceq v l ≤ l.length := by
  have := cnt_bd v l
  have := cnt_bd (v + 1) l
  have := cnt_anti (show v ≤ v + 1 by omega) l
  unfold ceq; omega

set_option maxRecDepth 100000 in
set_option maxHeartbeats 16000000 in
theorem rankSorts_walk (a : Option Addr) (len cap : Nat) (l : List Int) (r : Int) (w : World) (hin : InRow w a len cap l) (_ : (Lit.int .i64 r).wf = true) :
    Calls Try.prog 4 #[.slice a len cap, .int .i64 r] w fun e w' =>
      e = .returned (.bool true) ∧ Below w.heap.size w w' := by
  obtain ⟨ys, n, hy, hn, hm, hb⟩ := vals_facts l
  have hlv : ∀ w', InRow w' a len cap l → _ := fun w' h => values_at a len cap l w' h ys n hy hn
  have HLv := Lib.hid hlv
  have HS0 := Lib.hid (fun w => rbegun_ok w)
  have HIn := Lib.hid hin
  obtain ⟨s, hs⟩ : ∃ s, srt ys = s := ⟨_, rfl⟩
  have hsn : s.length = n := by rw [← hs, srt_len, hn]
  have hsb : Btw 0 16777216 s := fun x hx => hb x ((srt_perm ys).mem_iff.1 (hs ▸ hx))
  have hss : srt s = s := by rw [← hs, srt_srt]
  have hsp : s.Pairwise (· ≤ ·) := by rw [← hs]; exact srt_sorted ys
  have hsc : ∀ t, cnt t s = cnt t ys := fun t => by rw [← hs, srt_cnt]
  have hs1 : ∀ A c w', Row w' A n ys → _ := fun A c w' h => sort_row A n c ys s w' h hm hb hs
  have hs2 : ∀ A c w', Row w' A n s → _ := fun A c w' h => sort_row A n c s s w' h hm hsb hss
  have hs4 : ∀ A c w', Row w' A n s → _ := fun A c w' h => isSorted_ok A n c s w' h (by omega) hsp
  have hs5 : ∀ A c A' c' w', Row w' A n s → Row w' A' n s → _ := fun A c A' c' w' h h' => equal_ok A A' n c n c' s w' h h' (by omega)
  have HS1 := Lib.hid hs1
  have HS2 := Lib.hid hs2
  have HS4 := Lib.hid hs4
  have HS5 := Lib.hid hs5
  have HN := Lib.hid hn
  have HSN := Lib.hid hsn
  have HSC := Lib.hid hsc
  have qa := alloc_cells
  have qf := alloc_frozens
  obtain ⟨i0, hi, hz0, hz1, hz2⟩ := info_parts info_int
  obtain ⟨T, hT⟩ : ∃ T : Nat, 0 < n → (within r n = (T : Int) ∧ T < n) := by
    rcases Nat.eq_zero_or_pos n with h0 | h0
    · exact ⟨0, fun h => by omega⟩
    · have b1 := within_bd r (n := n) (by omega)
      obtain ⟨T, hT⟩ := Int.eq_ofNat_of_zero_le b1.1
      exact ⟨T, fun _ => ⟨hT, by omega⟩⟩
  obtain ⟨zs, hzs⟩ : ∃ zs, ys.drop T ++ ys.take T = zs := ⟨_, rfl⟩
  have hzp : zs.Perm ys := hzs ▸ rot_perm ys T
  have hzn : zs.length = n := by rw [hzp.length_eq, hn]
  have hzb : Btw 0 16777216 zs := fun x hx => hb x (hzp.mem_iff.1 hx)
  have hzk : ∀ k, k < n → zs.getD k 0 = ys.getD ((k + T) % n) 0 := fun k hk => hzs ▸ rot_get ys hn (hT (by omega)).2 hk
  have hzs' : srt zs = s := by rw [srt_same hzp, hs]
  have hs3 : ∀ A c w', Row w' A n zs → _ := fun A c w' h => sort_row A n c zs s w' h hm hzb hzs'
  have HS3 := Lib.hid hs3
  have HZN := Lib.hid hzn
  have HZK := Lib.hid hzk
  have HT0 := Lib.hid hT
  clear hT hlv hs1 hs2 hs3 hs4 hs5 hin hn hy hb hs hsn hsb hss hsp hsc hzs hzp hzn hzb hzk hzs'
  go_enter Try.func4, Try.ntmps4
  go_wp2_with fail
  refine (HS0.out _).mono ?_
  rintro e w1 ⟨rfl, hb1⟩
  have z1 := hb1.size
  have c1 := Below.cells hb1
  have f1 := Below.frozens hb1
  try simp only [World.size_alloc, World.size_setCell, World.size_drew] at z1 c1 f1
  go_wp2_with fail
  refine (HLv.out _ (HIn.out.below (by repeat (first | (with_reducible exact Below.refl _ _) | ((with_reducible refine Below.alloc ?_ ?_ _); rotate_left; (next => ((try dsimp only); (try simp only [World.size_alloc, World.size_setCell, World.size_drew]); omega))) | ((with_reducible refine Below.setCell ?_ ?_ _); rotate_left; (next => ((try dsimp only); (try simp only [World.size_alloc, World.size_setCell, World.size_drew]); omega))) | (with_reducible refine Below.drew ?_) | ((with_reducible refine Below.trans ?_ (Below.mono hb1 ?_)); rotate_left; (next => ((try dsimp only); (try simp only [World.size_alloc, World.size_setCell, World.size_drew]); omega))))))).mono ?_
  rintro e w2 ⟨A2, cap2, rfl, hrA2, hb2⟩
  have RA2 := Lib.hid hrA2.1
  have EA2 := Lib.hid hrA2.1.each
  have IA2 := Lib.hid hrA2
  have capA2 := hrA2.2.1
  clear hrA2
  have z2 := hb2.size
  have c2 := Below.cells hb2
  have f2 := Below.frozens hb2
  try simp only [World.size_alloc, World.size_setCell, World.size_drew] at z2 c2 f2
  go_wp2_with fail
  refine (HS1.out _ _ _ RA2.out).mono ?_
  rintro e w3 ⟨A3, cap3, rfl, hin3, hb3⟩
  have R3 := Lib.hid hin3.1
  have z3 := hb3.size
  have c3 := Below.cells hb3
  have f3 := Below.frozens hb3
  clear hin3
  go_wp2_with fail
  refine (HS2.out _ _ _ R3.out).mono ?_
  rintro e w4 ⟨A4, cap4, rfl, hin4, hb4⟩
  have R4 := Lib.hid hin4.1
  have z4 := hb4.size
  have c4 := Below.cells hb4
  have f4 := Below.frozens hb4
  clear hin4
  go_wp2_with fail
  have bel0 : Below w.heap.size w w4 := (by repeat (first | (with_reducible exact Below.refl _ _) | ((with_reducible refine Below.alloc ?_ ?_ _); rotate_left; (next => ((try dsimp only); (try simp only [World.size_alloc, World.size_setCell, World.size_drew]); omega))) | ((with_reducible refine Below.setCell ?_ ?_ _); rotate_left; (next => ((try dsimp only); (try simp only [World.size_alloc, World.size_setCell, World.size_drew]); omega))) | (with_reducible refine Below.drew ?_) | ((with_reducible refine Below.trans ?_ (Below.mono hb4 ?_)); rotate_left; (next => ((try dsimp only); (try simp only [World.size_alloc, World.size_setCell, World.size_drew]); omega))) | ((with_reducible refine Below.trans ?_ (Below.mono hb3 ?_)); rotate_left; (next => ((try dsimp only); (try simp only [World.size_alloc, World.size_setCell, World.size_drew]); omega))) | ((with_reducible refine Below.trans ?_ (Below.mono hb2 ?_)); rotate_left; (next => ((try dsimp only); (try simp only [World.size_alloc, World.size_setCell, World.size_drew]); omega))) | ((with_reducible refine Below.trans ?_ (Below.mono hb1 ?_)); rotate_left; (next => ((try dsimp only); (try simp only [World.size_alloc, World.size_setCell, World.size_drew]); omega)))))
  have HE := Lib.hid ((RA2.out.below hb3).below hb4).each
  have RY := Lib.hid ((RA2.out.below hb3).below hb4)
  have R3' := Lib.hid (R3.out.below hb4)
  clear c1 c2 c3 c4 f1 f2 f3 f4
  go_loopw [9, 33] (fun v i wr => ∃ k : Nat, k ≤ n ∧ i = .int .i64 k ∧ wr.ownsRow w4.heap.size 3 1 v k ((List.take k zs).map (Value.int .i64)) ∧ Below w4.heap.size w4 wr) (fun _ i _ => n - (intOf i).toNat)
  case atStart => exact ⟨0, Nat.zero_le _, rfl, World.ownsRow_nil _ _ _ _, Below.refl _ _⟩
  case round =>
    obtain ⟨k, hk, rfl, hown, bel⟩ := hrel
    have hsz := bel.size
    by_cases hlt : k < n
    · obtain ⟨J, hJ⟩ : ∃ J, (k + T) % n = J := ⟨_, rfl⟩
      have hJn : J < n := by rw [← hJ]; exact Nat.mod_lt _ (by omega)
      have hTn := (HT0.out (by omega)).2
      obtain ⟨bkx0, offx0, hAx0, ltx0, hrx0⟩ := HE.out J hJn
      subst hAx0
      replace hrx0 := (bel.cell (p := ⟨bkx0, offx0 + J, none⟩) ltx0).trans hrx0
      obtain ⟨x0, hvx0, hxx0⟩ := name_num hrx0
      have Hx0 := Lib.hid hvx0
      clear hvx0 hrx0
      have htk : List.take (k + 1) zs = List.take k zs ++ [x0] := by rw [take_snoc _ (by have := HZN.out; omega), HZK.out k hlt, hJ, ← Hx0.out]
      have HT := Lib.hid htk
      have e1 : IntKind.i64.wrap ((k : Int) + T) = ((k + T : Nat) : Int) := IntWalk.i64_in _ (by omega)
      have e2 : ((k + T : Nat) : Int).tmod n = (J : Int) := by rw [← hJ]; rfl
      have e3 : ((k + T : Nat) : Int) % n = (J : Int) := by rw [← hJ]; rfl
      have e4 : (k : Int) + T = ((k + T : Nat) : Int) := by omega
      have e5 : ((k : Int) + T) % n = (J : Int) := by rw [e4, e3]
      have j1 : (0 : Int) ≤ J := by omega
      have j2 : (J : Int) < n := by omega
      clear htk hJ e4 e1 e2 e3
      go_wp2_with fail
      refine (within_any r n T _ (by omega) (by omega) (HT0.out (by omega)).1).mono ?_
      rintro e w' ⟨rfl, rfl⟩
      go_wp2_with (at_builtin; (refine wpList_append_own _ rfl _ _ 22 rfl (w4.heap.size) 3 i0 (.int .i64 0) 1 8 Try.underlying22 hi hz0 hz1 hz2 rfl (by decide) _ _ _ rfl (World.ownsRow.alloc hown _) ⟨wr.heap.size, 0, none⟩ 1 1 [.int .i64 (x0)] rfl rfl (app1_cells _ _ _) (app1_one _ _) (by unfold maxLen; omega) (by omega) (by simp; omega) ?_))
      intro vq wq ownq grq _
      have own2 : wq.ownsRow w4.heap.size 3 1 vq (k + 1) ((List.take (k + 1) zs).map (Value.int .i64)) := by rw [HT.out]; simpa [List.map_append, List.map_take] using ownq
      have bel2 := (bel.alloc hsz _).grown grq (by simp; omega) (fun g hg => (hown.lt g hg).1)
      have HO := Lib.hid own2
      clear ownq grq hown own2 hxx0 bel e5
      go_wp2_with fail
      go_roundw
      case rel => first | exact ⟨k + 1, by omega, by go_num, HO.out, bel2⟩ | ((repeat apply Exists.intro); exact ⟨⟨k + 1, by omega, by go_num, HO.out, bel2⟩, rfl⟩)
      case measure => simp [intOf]; omega
    · obtain rfl : n = k := by omega
      rw [List.take_of_length_le (by have := HZN.out; omega)] at hown
      obtain ⟨w5, rfl⟩ : ∃ z : World, z = wr := ⟨_, rfl⟩
      obtain ⟨A5, c5, rfl, p5, q5, n5⟩ := own_form hown
      have R5 := Lib.hid (Row.of_own hown)
      have RY5 := Lib.hid (RY.out.below bel)
      have R35 := Lib.hid (R3'.out.below bel)
      have R45 := Lib.hid (R4.out.below bel)
      have hb5 := bel
      have z5 := hsz
      clear hown bel hsz hlt hk
      go_wp2_with fail
      refine (HS3.out _ _ _ R5.out).mono ?_
      rintro e w6 ⟨A6, cap6, rfl, hin6, hb6⟩
      have R6 := Lib.hid hin6.1
      have z6 := hb6.size
      clear hin6
      go_wp2_with fail
      refine (HS4.out _ _ _ (R35.out.below hb6)).mono ?_
      rintro e w7 ⟨rfl, hb7⟩
      have z7 := hb7.size
      have c7 := Below.cells hb7
      have f7 := Below.frozens hb7
      try simp only [World.size_alloc, World.size_setCell, World.size_drew] at z7 c7 f7
      go_wp2_with fail
      refine (HS5.out _ _ _ _ _ ((R35.out.below hb6).below hb7) ((R45.out.below hb6).below hb7)).mono ?_
      rintro e w8 ⟨rfl, hb8⟩
      have z8 := hb8.size
      have c8 := Below.cells hb8
      have f8 := Below.frozens hb8
      try simp only [World.size_alloc, World.size_setCell, World.size_drew] at z8 c8 f8
      go_wp2_with fail
      refine (HS5.out _ _ _ _ _ (((R35.out.below hb6).below hb7).below hb8) ((R6.out.below hb7).below hb8)).mono ?_
      rintro e w9 ⟨rfl, hb9⟩
      have z9 := hb9.size
      have c9 := Below.cells hb9
      have f9 := Below.frozens hb9
      try simp only [World.size_alloc, World.size_setCell, World.size_drew] at z9 c9 f9
      go_wp2_with fail
      have bel9 : Below w.heap.size w w9 := bel0.trans (Below.mono ((by repeat (first | (with_reducible exact Below.refl _ _) | ((with_reducible refine Below.alloc ?_ ?_ _); rotate_left; (next => ((try dsimp only); (try simp only [World.size_alloc, World.size_setCell, World.size_drew]); omega))) | ((with_reducible refine Below.setCell ?_ ?_ _); rotate_left; (next => ((try dsimp only); (try simp only [World.size_alloc, World.size_setCell, World.size_drew]); omega))) | (with_reducible refine Below.drew ?_) | ((with_reducible refine Below.trans ?_ (Below.mono hb9 ?_)); rotate_left; (next => ((try dsimp only); (try simp only [World.size_alloc, World.size_setCell, World.size_drew]); omega))) | ((with_reducible refine Below.trans ?_ (Below.mono hb8 ?_)); rotate_left; (next => ((try dsimp only); (try simp only [World.size_alloc, World.size_setCell, World.size_drew]); omega))) | ((with_reducible refine Below.trans ?_ (Below.mono hb7 ?_)); rotate_left; (next => ((try dsimp only); (try simp only [World.size_alloc, World.size_setCell, World.size_drew]); omega))) | ((with_reducible refine Below.trans ?_ (Below.mono hb6 ?_)); rotate_left; (next => ((try dsimp only); (try simp only [World.size_alloc, World.size_setCell, World.size_drew]); omega))) | ((with_reducible refine Below.trans ?_ (Below.mono hb5 ?_)); rotate_left; (next => ((try dsimp only); (try simp only [World.size_alloc, World.size_setCell, World.size_drew]); omega)))))) bel0.size)
      have HY := Lib.hid ((((RY5.out.below hb6).below hb7).below hb8).below hb9).each
      have HX := Lib.hid ((((R35.out.below hb6).below hb7).below hb8).below hb9).each
      have RY9 := Lib.hid ((((RY5.out.below hb6).below hb7).below hb8).below hb9)
      have RX9 := Lib.hid ((((R35.out.below hb6).below hb7).below hb8).below hb9)
      clear c7 c8 c9 f7 f8 f9
      go_loop [93] (fun i => ∃ k : Nat, k ≤ n ∧ i = .int .i64 k) (fun i => n - (intOf i).toNat)
      case atStart => exact ⟨0, Nat.zero_le _, rfl⟩
      case round =>
        obtain ⟨k, hk, rfl⟩ := hrel
        by_cases hlt : k < n
        · obtain ⟨bY, oY, rfl, _, hcY⟩ := RY9.out.at (by omega)
          obtain ⟨bX, oX, rfl, _, hcX⟩ := RX9.out.at (by omega)
          have hck := hcY k hlt
          obtain ⟨v, hv⟩ : ∃ v, ys.getD k 0 = v := ⟨_, rfl⟩
          rw [hv] at hck
          have HCY := Lib.hid hcY
          have HCX := Lib.hid hcX
          clear hcY hcX hv
          go_wp2_with fail
          clear hck
          go_loop [15, 99] (fun d i => ∃ (j : Nat) (D : Int), j ≤ n ∧ i = .int .i64 j ∧ d = .int .i64 D ∧ (-64 ≤ D ∧ D ≤ 64) ∧ ceq v (ys.take j) - ceq v (s.take j) = D) (fun _ i => n - (intOf i).toNat)
          case atStart => exact ⟨0, 0, Nat.zero_le _, rfl, rfl, by omega, by simp [ceq, cnt]⟩
          case round =>
            obtain ⟨j, D, hj, rfl, rfl, hDb, hD⟩ := hrel
            by_cases hjn : j < n
            · have s1 := ceq_snoc v ys (k := j) (by have := HN.out; omega)
              have s2 := ceq_snoc v s (k := j) (by have := HSN.out; omega)
              have d1 := ceq_bd v (ys.take (j + 1))
              have d2 := ceq_bd v (s.take (j + 1))
              rw [List.length_take] at d1 d2
              have p1 := HCY.out j hjn
              have p2 := HCX.out j hjn
              obtain ⟨y, hy⟩ : ∃ v, ys.getD j 0 = v := ⟨_, rfl⟩
              obtain ⟨x, hx⟩ : ∃ v, s.getD j 0 = v := ⟨_, rfl⟩
              rw [hy] at p1 s1
              rw [hx] at p2 s2
              have cs : ∃ D', ceq v (ys.take (j + 1)) - ceq v (s.take (j + 1)) = D' ∧ -64 ≤ D' ∧ D' ≤ 64 ∧ (((y == v) = true ∧ (x == v) = true ∧ D' = D) ∨ ((y == v) = true ∧ (x == v) = false ∧ D' = D + 1) ∨ ((y == v) = false ∧ (x == v) = true ∧ D' = D - 1) ∨ ((y == v) = false ∧ (x == v) = false ∧ D' = D)) := by
                refine ⟨_, rfl, by omega, by omega, ?_⟩
                by_cases a1 : y = v
                · rw [if_pos a1] at s1
                  by_cases a2 : x = v
                  · rw [if_pos a2] at s2; exact .inl ⟨by simpa using a1, by simpa using a2, by omega⟩
                  · rw [if_neg a2] at s2; exact .inr (.inl ⟨by simpa using a1, by simpa using a2, by omega⟩)
                · rw [if_neg a1] at s1
                  by_cases a2 : x = v
                  · rw [if_pos a2] at s2; exact .inr (.inr (.inl ⟨by simpa using a1, by simpa using a2, by omega⟩))
                  · rw [if_neg a2] at s2; exact .inr (.inr (.inr ⟨by simpa using a1, by simpa using a2, by omega⟩))
              clear s1 s2 d1 d2 hy hx hD
              obtain ⟨D', hD', b1, b2, cs⟩ := cs
              have HD' := Lib.hid hD'
              clear hD'
              rcases cs with ⟨e1, e2, rfl⟩ | ⟨e1, e2, rfl⟩ | ⟨e1, e2, rfl⟩ | ⟨e1, e2, rfl⟩
              all_goals
                go_wp2_with fail
                go_round
                case rel => exact ⟨j + 1, _, by omega, by go_num, rfl, ⟨b1, b2⟩, HD'.out⟩
                case measure => simp [intOf]; omega
            · obtain rfl : n = j := by omega
              rw [List.take_of_length_le (by have := HN.out; omega), List.take_of_length_le (by have := HSN.out; omega)] at hD
              have : D = 0 := by rw [← hD]; unfold ceq; rw [HSC.out, HSC.out]; omega
              clear hD
              subst this
              go_wp2_with fail
              go_round
              case rel => exact ⟨k + 1, by omega, by go_num⟩
              case measure => simp [intOf]; omega
        · go_wp2_with fail
          go_ret
          exact ⟨rfl, bel9⟩
end Go.Proofs.Ytlaeibpanipefaa
