import Derived.Test.YtpcgccmkmolkoaaLa
set_option linter.unusedSimpArgs false
set_option linter.unusedVariables false
namespace Go.Proofs.Ytpcgccmkmolkoaa
open Go.RowKit

/-- A list by its places. -/
def tab (n : Nat) (f : Nat → Int) : List Int := (List.range n).map f
theorem tab_len (n : Nat) (f : Nat → Int) : (tab n f).length = n := by simp [tab]
theorem tab_get {n k : Nat} (f : Nat → Int) (h : k < n) : (tab n f).getD k 0 = f k := by simp [tab, List.getD, h]
theorem tab_btw {n : Nat} {f : Nat → Int} {a b : Int} (h : ∀ k, k < n → a ≤ f k ∧ f k ≤ b) : Btw a b (tab n f) := by
  intro x hx
  obtain ⟨k, hk, rfl⟩ := List.mem_map.1 hx
  exact h k (by simpa using hk)
theorem get_getD {l : List Int} {k : Nat} (h : k < l.length) : l[k] = l.getD k 0 := by simp [List.getD, h]
theorem devs_tab {e : Int} {f : Nat → Int} {ks : List Int} {n : Nat} (h : ks.length = n) : devs e (tab n f) ks = tab n (fun k => f k - e * ks.getD k 0) := by
  refine List.ext_getElem (by rw [devs_len (tab_len n f) h, tab_len]) fun k h1 h2 => ?_
  have hk : k < n := by rw [tab_len] at h2; exact h2
  have a := devs_get (e := e) (tab_len n f) h hk
  have b := tab_get (fun k => f k - e * ks.getD k 0) hk
  rw [tab_get f hk] at a
  have g1 : (devs e (tab n f) ks)[k] = (devs e (tab n f) ks).getD k 0 := get_getD h1
  have g2 : (tab n fun k => f k - e * ks.getD k 0)[k] = (tab n fun k => f k - e * ks.getD k 0).getD k 0 := get_getD h2
  rw [g1, g2, a, b]
theorem sum_tab_add (n : Nat) (f : Nat → Int) (b : Int) : sumI (tab n (fun k => f k + b)) = sumI (tab n f) + n * b := by
  unfold tab
  induction n with
  | zero => simp [sumI]
  | succ n ih =>
    rw [List.range_succ, List.map_append, List.map_append, sumI_append, sumI_append, ih]
    simp only [List.map_cons, List.map_nil, sumI, Int.natCast_add, Int.add_mul]
    omega

set_option maxRecDepth 100000 in
set_option maxHeartbeats 16000000 in
theorem chenExact_walk (a : Option Addr) (len cap : Nat) (l : List Int) (p q r : Int) (a' : Option Addr) (len' cap' : Nat) (l' : List Int) (w : World) (hin : InRow w a len cap l) (_ : (Lit.int .i64 p).wf = true) (_ : (Lit.int .i64 q).wf = true) (_ : (Lit.int .i64 r).wf = true) (hin' : InRow w a' len' cap' l') :
    Calls Try.prog 8 #[.slice a len cap, .int .i64 p, .int .i64 q, .int .i64 r, .slice a' len' cap'] w fun e w' =>
      e = .returned (.bool true) ∧ Below w.heap.size w w' := by
  obtain ⟨ks, n, hy, hn, hm, hris, hbd⟩ := rs_facts l
  have b1 := within_bd p (n := 1000) (by omega)
  have b2 := within_bd q (n := 1000) (by omega)
  have b3 := within_bd r (n := 1000) (by omega)
  obtain ⟨F, e_F⟩ : ∃ z_, within p 1000 = z_ := ⟨_, rfl⟩
  rw [e_F] at b1
  have HF := Lib.hid e_F
  clear e_F
  obtain ⟨PE, e_PE⟩ : ∃ z_, within q 1000 = z_ := ⟨_, rfl⟩
  rw [e_PE] at b2
  have HPE := Lib.hid e_PE
  clear e_PE
  obtain ⟨BY, e_BY⟩ : ∃ z_, within r 1000 = z_ := ⟨_, rfl⟩
  rw [e_BY] at b3
  have HBY := Lib.hid e_BY
  clear e_BY
  have hris' : ∀ w', InRow w' a len cap l → _ := fun w' h => rising_any a len cap l w' h ks n hy hn
  have HRis := Lib.hid hris'
  have HIn := Lib.hid hin
  have rises1 : Rises [1, 2] := by intro k hk; match k, hk with | 0, _ => simp [prev] | 1, _ => simp [prev]
  have hx1 := expect_ok _ _ 2 2 2 [1, 2] [10, 21] 10 30 _ (lit_fst w 3 3 [1, 2] [10, 21] 2 rfl) (lit_snd w 3 3 [1, 2] [10, 21] 2 rfl) (by omega) (by omega) (by omega) rises1 (by decide) (by decide)
  simp only [List.map_cons, List.map_nil] at hx1
  have HX1 := Lib.hid hx1
  have qa := alloc_cells
  have qf := alloc_frozens
  rcases Nat.eq_zero_or_pos n with h0 | h0
  · subst h0
    clear hris' hin hn hy hris hbd rises1 hx1
    go_enter Try.func8, Try.ntmps8
    go_wp2_with fail
    refine (HX1.out).mono ?_
    rintro e w' ⟨rfl, rfl⟩
    go_wp2_with fail
    refine (HRis.out _ (HIn.out.below (by repeat (first | (with_reducible exact Below.refl _ _) | ((with_reducible refine Below.alloc ?_ ?_ _); rotate_left; (next => ((try dsimp only); (try simp only [World.size_alloc, World.size_setCell, World.size_drew]); omega))) | ((with_reducible refine Below.setCell ?_ ?_ _); rotate_left; (next => ((try dsimp only); (try simp only [World.size_alloc, World.size_setCell, World.size_drew]); omega))) | (with_reducible refine Below.drew ?_) | (refine Below.trans ?_ (by assumption)))))).mono ?_
    rintro e w1 ⟨A, c, rfl, hrA, hb1⟩
    have RA := Lib.hid hrA.1
    have EA := Lib.hid hrA.1.each
    have IA := Lib.hid hrA
    have capA := hrA.2.1
    clear hrA
    have z1 := hb1.size
    have c1 := Below.cells hb1
    have f1 := Below.frozens hb1
    try simp only [World.size_alloc, World.size_setCell, World.size_drew] at z1 c1 f1
    go_wp2_with fail
    go_ret
    exact ⟨rfl, (by repeat (first | (with_reducible exact Below.refl _ _) | ((with_reducible refine Below.alloc ?_ ?_ _); rotate_left; (next => ((try dsimp only); (try simp only [World.size_alloc, World.size_setCell, World.size_drew]); omega))) | ((with_reducible refine Below.setCell ?_ ?_ _); rotate_left; (next => ((try dsimp only); (try simp only [World.size_alloc, World.size_setCell, World.size_drew]); omega))) | (with_reducible refine Below.drew ?_) | ((with_reducible refine Below.trans ?_ (Below.mono hb1 ?_)); rotate_left; (next => ((try dsimp only); (try simp only [World.size_alloc, World.size_setCell, World.size_drew]); omega)))))⟩
  · have hne : ((n : Int) == 0) = false := by simp; omega
    obtain ⟨E, hEe⟩ : ∃ E, E = 1 + PE := ⟨_, rfl⟩
    have hEE : 1 + PE = E := hEe.symm
    have eE : 1 ≤ E ∧ E ≤ 1000 := by omega
    obtain ⟨NX, hNX⟩ : ∃ NX, prev ks n = NX := ⟨_, rfl⟩
    have hlast : ks.getD (n - 1) 0 = NX := by rw [← hNX]; unfold prev; rw [if_neg (by omega)]
    have nb := hbd n (Nat.le_refl _)
    rw [hNX] at nb
    have hkb : ∀ k, k < n → 1 ≤ ks.getD k 0 ∧ ks.getD k 0 ≤ 576 := by
      intro k hk
      have d := hris k (by omega)
      have e := hbd k (by omega)
      have f := hbd (k + 1) (by omega)
      rw [prev_succ] at f
      omega
    have hvb : ∀ k, k < n → 0 ≤ E * ks.getD k 0 ∧ E * ks.getD k 0 ≤ 576000 := by
      intro k hk
      have := hkb k hk
      exact ⟨Int.mul_nonneg (by omega) (by omega), Int.le_trans (Int.mul_le_mul (a := E) (b := ks.getD k 0) (c := 1000) (d := 576) (by omega) (by omega) (by omega) (by omega)) (by omega)⟩
    obtain ⟨dl, hdl⟩ : ∃ dl : Nat → Int, dl = fun k => if k < len' then within (l'.getD k 0) 500 else 0 := ⟨_, rfl⟩
    have hdv : ∀ k, dl k = if k < len' then within (l'.getD k 0) 500 else 0 := fun k => by rw [hdl]
    have hdb : ∀ k, 0 ≤ dl k ∧ dl k ≤ 499 := by
      intro k; rw [hdv]; split
      · have := within_bd (l'.getD k 0) (n := 500) (by omega); omega
      · omega
    obtain ⟨T1, hT1⟩ : ∃ T1, T1 = tab n (fun k => F + E * ks.getD k 0) := ⟨_, rfl⟩
    obtain ⟨T2, hT2⟩ : ∃ T2, T2 = tab n (fun k => F + E * ks.getD k 0 + dl k) := ⟨_, rfl⟩
    obtain ⟨T3, hT3⟩ : ∃ T3, T3 = tab n (fun k => F + E * ks.getD k 0 + dl k + BY) := ⟨_, rfl⟩
    have g1 : ∀ k, k < n → T1.getD k 0 = F + E * ks.getD k 0 := fun k hk => by rw [hT1]; exact tab_get _ hk
    have g2 : ∀ k, k < n → T2.getD k 0 = F + E * ks.getD k 0 + dl k := fun k hk => by rw [hT2]; exact tab_get _ hk
    have g3 : ∀ k, k < n → T3.getD k 0 = F + E * ks.getD k 0 + dl k + BY := fun k hk => by rw [hT3]; exact tab_get _ hk
    have t1 : Btw 0 1073741824 T1 := by rw [hT1]; exact tab_btw fun k hk => by have := hvb k hk; omega
    have t2 : Btw 0 1073741824 T2 := by rw [hT2]; exact tab_btw fun k hk => by have := hvb k hk; have := hdb k; omega
    have t3 : Btw 0 1073741824 T3 := by rw [hT3]; exact tab_btw fun k hk => by have := hvb k hk; have := hdb k; omega
    have l1 : T1.length = n := by rw [hT1]; exact tab_len _ _
    have l2 : T2.length = n := by rw [hT2]; exact tab_len _ _
    have l3 : T3.length = n := by rw [hT3]; exact tab_len _ _
    have x1 : sumI (devs E T1 ks) / n + E * (prev ks n + 1) = F + E * (NX + 1) := by
      have hb : Btw F F (devs E T1 ks) := by rw [hT1, devs_tab hn]; exact tab_btw fun k hk => by omega
      have := avg_btw hb (by rw [devs_len l1 hn]; exact h0)
      rw [devs_len l1 hn] at this
      rw [hNX]; omega
    obtain ⟨X, x2⟩ : ∃ X, sumI (devs E T2 ks) / n + E * (prev ks n + 1) = X := ⟨_, rfl⟩
    have hXb : F + E * (NX + 1) ≤ X ∧ X < F + E * (NX + 1) + 500 := by
      have hb : Btw F (F + 499) (devs E T2 ks) := by rw [hT2, devs_tab hn]; exact tab_btw fun k hk => by have := hdb k; omega
      have := avg_btw hb (by rw [devs_len l2 hn]; exact h0)
      rw [devs_len l2 hn] at this
      rw [← x2, hNX]; omega
    have x3 : sumI (devs E T3 ks) / n + E * (prev ks n + 1) = X + BY := by
      have e : devs E T3 ks = tab n (fun k => (F + E * ks.getD k 0 + dl k - E * ks.getD k 0) + BY) := by
        rw [hT3, devs_tab hn]; congr 1; funext k; omega
      have e2 : devs E T2 ks = tab n (fun k => (F + E * ks.getD k 0 + dl k - E * ks.getD k 0)) := by rw [hT2, devs_tab hn]
      rw [e, sum_tab_add, ← e2, Int.add_mul_ediv_left _ _ (by omega), ← x2]
      omega
    have hexp : ∀ T x, T.length = n → Btw 0 1073741824 T → sumI (devs E T ks) / n + E * (prev ks n + 1) = x → ∀ A A' c c' w', Row w' A n ks → Row w' A' n T → _ := fun T x _ ht hx A A' c c' w' h h' => expect_ok A A' n c c' ks T E x w' h h' h0 hm (by omega) hris ht hx
    have e1 : ∀ A A' c c' w', Row w' A n ks → Row w' A' n T1 → _ := fun A A' c c' w' h h' => hexp T1 _ l1 t1 x1 A A' c c' w' h h'
    have e2 : ∀ A A' c c' w', Row w' A n ks → Row w' A' n T2 → _ := fun A A' c c' w' h h' => hexp T2 _ l2 t2 x2 A A' c c' w' h h'
    have e3 : ∀ A A' c c' w', Row w' A n ks → Row w' A' n T3 → _ := fun A A' c c' w' h h' => hexp T3 _ l3 t3 x3 A A' c c' w' h h'
    have H1 := Lib.hid e1
    have H2 := Lib.hid e2
    have H3 := Lib.hid e3
    have HG1 := Lib.hid g1
    have HG2 := Lib.hid g2
    have HG3 := Lib.hid g3
    have HL1 := Lib.hid l1
    have HL2 := Lib.hid l2
    have HL3 := Lib.hid l3
    have HVb := Lib.hid hvb
    have HKb := Lib.hid hkb
    have HDv := Lib.hid hdv
    have HLast := Lib.hid hlast
    have HB2 := Lib.hid hin'.1.each
    obtain ⟨i0, hi, hz0, hz1, hz2⟩ := info_parts info_int
    have mx := hin'.2.2.1
    have mc := hin'.2.1
    unfold maxLen at mx
    have nbE : 0 ≤ E * (NX + 1) ∧ E * (NX + 1) ≤ 577000 := ⟨Int.mul_nonneg (by omega) (by omega), Int.le_trans (Int.mul_le_mul (a := E) (b := NX + 1) (c := 1000) (d := 577) (by omega) (by omega) (by omega) (by omega)) (by omega)⟩
    clear hris' hexp e1 e2 e3 g1 g2 g3 t1 t2 t3 l1 l2 l3 x1 x2 x3 hT1 hT2 hT3 hdl hdv hdb hvb hkb hlast hin hin' hn hy hris hbd hNX hEe rises1 hx1
    go_enter Try.func8, Try.ntmps8
    go_wp2_with fail
    refine (HX1.out).mono ?_
    rintro e w' ⟨rfl, rfl⟩
    go_wp2_with fail
    refine (HRis.out _ (HIn.out.below (by repeat (first | (with_reducible exact Below.refl _ _) | ((with_reducible refine Below.alloc ?_ ?_ _); rotate_left; (next => ((try dsimp only); (try simp only [World.size_alloc, World.size_setCell, World.size_drew]); omega))) | ((with_reducible refine Below.setCell ?_ ?_ _); rotate_left; (next => ((try dsimp only); (try simp only [World.size_alloc, World.size_setCell, World.size_drew]); omega))) | (with_reducible refine Below.drew ?_) | (refine Below.trans ?_ (by assumption)))))).mono ?_
    rintro e w1 ⟨A, c, rfl, hrA, hb1⟩
    have cA := hrA.2.1
    have RA := Lib.hid hrA.1
    obtain ⟨b, off, rfl, ltA, hcA⟩ := hrA.1.at h0
    have HcA := Lib.hid hcA
    have hl1 := hcA (n - 1) (by omega)
    rw [HLast.out] at hl1
    have HL9 := Lib.hid hl1
    have bel1 : Below w.heap.size w w1 := (by repeat (first | (with_reducible exact Below.refl _ _) | ((with_reducible refine Below.alloc ?_ ?_ _); rotate_left; (next => ((try dsimp only); (try simp only [World.size_alloc, World.size_setCell, World.size_drew]); omega))) | ((with_reducible refine Below.setCell ?_ ?_ _); rotate_left; (next => ((try dsimp only); (try simp only [World.size_alloc, World.size_setCell, World.size_drew]); omega))) | (with_reducible refine Below.drew ?_) | ((with_reducible refine Below.trans ?_ (Below.mono hb1 ?_)); rotate_left; (next => ((try dsimp only); (try simp only [World.size_alloc, World.size_setCell, World.size_drew]); omega)))))
    have HBel := Lib.hid bel1
    have HE2 := Lib.hid (cells_below HB2.out (w' := w1) bel1)
    clear hcA hrA hb1 bel1 qa qf hl1
    go_wp2_with fail
    refine (within_any p 1000 F _ (by omega) (by omega) HF.out).mono ?_
    rintro e w' ⟨rfl, rfl⟩
    go_wp2_with fail
    refine (within_any q 1000 PE _ (by omega) (by omega) HPE.out).mono ?_
    rintro e w' ⟨rfl, rfl⟩
    go_wp2_with fail
    refine (within_any r 1000 BY _ (by omega) (by omega) HBY.out).mono ?_
    rintro e w' ⟨rfl, rfl⟩
    go_wp2_with fail
    go_loopw [14, 15, 16, 53] (fun v u z i wr => ∃ (k : Nat), k ≤ n ∧ i = .int .i64 k ∧ wr.ownsRow w1.heap.size 3 1 v k ((List.take k T1).map (Value.int .i64)) ∧ wr.ownsRow w1.heap.size 3 1 u k ((List.take k T2).map (Value.int .i64)) ∧
        wr.ownsRow w1.heap.size 3 1 z k ((List.take k T3).map (Value.int .i64)) ∧ Apart v u ∧ Apart v z ∧ Apart u z ∧ Below w1.heap.size w1 wr) (fun _ _ _ i _ => n - (intOf i).toNat)
    case atStart => exact ⟨0, Nat.zero_le _, rfl, World.ownsRow_nil _ _ _ _, World.ownsRow_nil _ _ _ _, World.ownsRow_nil _ _ _ _, apart_nil _, apart_nil _, apart_nil _, Below.refl _ _⟩
    case round =>
      obtain ⟨k, hk, rfl, o1, o2, o3, a12, a13, a23, bel⟩ := hrel
      have hsz := bel.size
      by_cases hlt : k < n
      · have hcw := HcA.out k hlt
        have hcy := (bel.cell (p := ⟨b, off + k, none⟩) ltA).trans hcw
        obtain ⟨y, hyv, hyc⟩ := name_num hcy
        have HY := Lib.hid hyv
        have vb := HVb.out k hlt
        have kb := HKb.out k hlt
        rw [← hyv] at vb kb
        have hg := HDv.out k
        clear hcy hyv
        by_cases hd : k < len'
        · rw [if_pos hd] at hg
          obtain ⟨bx, ofx, hAx, ltx, hrx⟩ := HE2.out k hd
          subst hAx
          obtain ⟨x, hvx, hxx⟩ := name_num hrx
          rw [← hvx] at hg
          clear hrx hvx
          obtain ⟨d, hdv⟩ : ∃ d, d = within x 500 := ⟨_, rfl⟩
          have db := within_bd x (n := 500) (by omega)
          rw [← hdv] at hg db
          have HD := Lib.hid hdv
          clear hdv
          have tk1 : List.take (k + 1) T1 = List.take k T1 ++ [F + E * y] := by rw [take_snoc _ (by have := HL1.out; omega), HG1.out k hlt, ← HY.out]
          have tk2 : List.take (k + 1) T2 = List.take k T2 ++ [F + E * y + d] := by rw [take_snoc _ (by have := HL2.out; omega), HG2.out k hlt, ← HY.out, hg]
          have tk3 : List.take (k + 1) T3 = List.take k T3 ++ [F + E * y + d + BY] := by rw [take_snoc _ (by have := HL3.out; omega), HG3.out k hlt, ← HY.out, hg]
          have K1 := Lib.hid tk1
          have K2 := Lib.hid tk2
          have K3 := Lib.hid tk3
          clear tk1 tk2 tk3 hg
          go_wp2_with (at_builtin; (refine wpList_append_own_at _ rfl _ _ 32 rfl (w1.heap.size) 3 i0 (.int .i64 0) 1 8 Try.underlying32 hi hz0 hz1 hz2 rfl (by decide) _ _ _ rfl (World.ownsRow.alloc o1 _) ⟨wr.heap.size, 0, none⟩ 1 1 [.int .i64 ((F + E * y))] rfl rfl (app1_cells _ _ _) (app1_one _ _) (by unfold maxLen; omega) (by omega) (by simp; omega) ?_))
          intro vq wq ownq grq _ atq
          have n1 : wq.ownsRow w1.heap.size 3 1 vq (k + 1) ((List.take (k + 1) T1).map (Value.int .i64)) := by rw [K1.out]; simpa [List.map_append, List.map_take] using ownq
          obtain ⟨m2, b12⟩ := own_beside o2 a12 grq atq
          obtain ⟨m3, b13⟩ := own_beside o3 a13 grq atq
          have belq := (bel.alloc hsz _).grown grq (by simp; omega) (fun g hg => (o1.lt g hg).1)
          have hsq := belq.size
          clear ownq grq atq o1 o2 o3 a12 a13 bel hsz hcw
          have hxq := (belq.cell (p := ⟨bx, ofx + k, none⟩) ltx).trans hxx
          go_wp2_with fail
          refine (within_any x 500 d _ (by omega) (by omega) HD.out.symm).mono ?_
          rintro e w' ⟨rfl, rfl⟩
          go_wp2_with (at_builtin; (refine wpList_append_own_at _ rfl _ _ 32 rfl (w1.heap.size) 3 i0 (.int .i64 0) 1 8 Try.underlying32 hi hz0 hz1 hz2 rfl (by decide) _ _ _ rfl (World.ownsRow.alloc m2 _) ⟨wq.heap.size, 0, none⟩ 1 1 [.int .i64 ((F + E * y + d))] rfl rfl (app1_cells _ _ _) (app1_one _ _) (by unfold maxLen; omega) (by omega) (by simp; omega) ?_))
          intro vr wr ownr grr _ atr
          have n2 : wr.ownsRow w1.heap.size 3 1 vr (k + 1) ((List.take (k + 1) T2).map (Value.int .i64)) := by rw [K2.out]; simpa [List.map_append, List.map_take] using ownr
          obtain ⟨m1, c21⟩ := own_beside n1 b12.symm grr atr
          obtain ⟨l3, c23⟩ := own_beside m3 a23 grr atr
          have belr := (belq.alloc hsq _).grown grr (by simp; omega) (fun g hg => (m2.lt g hg).1)
          have hsr := belr.size
          clear ownr grr atr m2 m3 n1 b12 a23 belq hsq
          go_wp2_with (at_builtin; (refine wpList_append_own_at _ rfl _ _ 32 rfl (w1.heap.size) 3 i0 (.int .i64 0) 1 8 Try.underlying32 hi hz0 hz1 hz2 rfl (by decide) _ _ _ rfl (World.ownsRow.alloc l3 _) ⟨wr.heap.size, 0, none⟩ 1 1 [.int .i64 ((F + E * y + d + BY))] rfl rfl (app1_cells _ _ _) (app1_one _ _) (by unfold maxLen; omega) (by omega) (by simp; omega) ?_))
          intro vs ws owns grs _ ats
          have n3 : ws.ownsRow w1.heap.size 3 1 vs (k + 1) ((List.take (k + 1) T3).map (Value.int .i64)) := by rw [K3.out]; simpa [List.map_append, List.map_take] using owns
          obtain ⟨j1, d31⟩ := own_beside m1 b13.symm grs ats
          obtain ⟨j2, d32⟩ := own_beside n2 c23.symm grs ats
          have bels := (belr.alloc hsr _).grown grs (by simp; omega) (fun g hg => (l3.lt g hg).1)
          have J1 := Lib.hid j1
          have J2 := Lib.hid j2
          have J3 := Lib.hid n3
          have D12 := Lib.hid c21.symm
          have D13 := Lib.hid d31.symm
          have D23 := Lib.hid d32.symm
          clear owns grs ats l3 m1 n2 n3 j1 j2 b13 c21 c23 d31 d32 belr hsr
          go_wp2_with fail
          go_roundw
          case rel => exact ⟨k + 1, by omega, by go_num, J1.out, J2.out, J3.out, D12.out, D13.out, D23.out, bels⟩
          case measure => simp [intOf]; omega
        · rw [if_neg hd] at hg
          have tk1 : List.take (k + 1) T1 = List.take k T1 ++ [F + E * y] := by rw [take_snoc _ (by have := HL1.out; omega), HG1.out k hlt, ← HY.out]
          have tk2 : List.take (k + 1) T2 = List.take k T2 ++ [F + E * y] := by rw [take_snoc _ (by have := HL2.out; omega), HG2.out k hlt, ← HY.out, hg]; simp
          have tk3 : List.take (k + 1) T3 = List.take k T3 ++ [F + E * y + BY] := by rw [take_snoc _ (by have := HL3.out; omega), HG3.out k hlt, ← HY.out, hg]; simp
          have K1 := Lib.hid tk1
          have K2 := Lib.hid tk2
          have K3 := Lib.hid tk3
          clear tk1 tk2 tk3 hg
          go_wp2_with (at_builtin; (refine wpList_append_own_at _ rfl _ _ 32 rfl (w1.heap.size) 3 i0 (.int .i64 0) 1 8 Try.underlying32 hi hz0 hz1 hz2 rfl (by decide) _ _ _ rfl (World.ownsRow.alloc o1 _) ⟨wr.heap.size, 0, none⟩ 1 1 [.int .i64 ((F + E * y))] rfl rfl (app1_cells _ _ _) (app1_one _ _) (by unfold maxLen; omega) (by omega) (by simp; omega) ?_))
          intro vq wq ownq grq _ atq
          have n1 : wq.ownsRow w1.heap.size 3 1 vq (k + 1) ((List.take (k + 1) T1).map (Value.int .i64)) := by rw [K1.out]; simpa [List.map_append, List.map_take] using ownq
          obtain ⟨m2, b12⟩ := own_beside o2 a12 grq atq
          obtain ⟨m3, b13⟩ := own_beside o3 a13 grq atq
          have belq := (bel.alloc hsz _).grown grq (by simp; omega) (fun g hg => (o1.lt g hg).1)
          have hsq := belq.size
          clear ownq grq atq o1 o2 o3 a12 a13 bel hsz hcw
          go_wp2_with (at_builtin; (refine wpList_append_own_at _ rfl _ _ 32 rfl (w1.heap.size) 3 i0 (.int .i64 0) 1 8 Try.underlying32 hi hz0 hz1 hz2 rfl (by decide) _ _ _ rfl (World.ownsRow.alloc m2 _) ⟨wq.heap.size, 0, none⟩ 1 1 [.int .i64 ((F + E * y))] rfl rfl (app1_cells _ _ _) (app1_one _ _) (by unfold maxLen; omega) (by omega) (by simp; omega) ?_))
          intro vr wr ownr grr _ atr
          have n2 : wr.ownsRow w1.heap.size 3 1 vr (k + 1) ((List.take (k + 1) T2).map (Value.int .i64)) := by rw [K2.out]; simpa [List.map_append, List.map_take] using ownr
          obtain ⟨m1, c21⟩ := own_beside n1 b12.symm grr atr
          obtain ⟨l3, c23⟩ := own_beside m3 a23 grr atr
          have belr := (belq.alloc hsq _).grown grr (by simp; omega) (fun g hg => (m2.lt g hg).1)
          have hsr := belr.size
          clear ownr grr atr m2 m3 n1 b12 a23 belq hsq
          go_wp2_with (at_builtin; (refine wpList_append_own_at _ rfl _ _ 32 rfl (w1.heap.size) 3 i0 (.int .i64 0) 1 8 Try.underlying32 hi hz0 hz1 hz2 rfl (by decide) _ _ _ rfl (World.ownsRow.alloc l3 _) ⟨wr.heap.size, 0, none⟩ 1 1 [.int .i64 ((F + E * y + BY))] rfl rfl (app1_cells _ _ _) (app1_one _ _) (by unfold maxLen; omega) (by omega) (by simp; omega) ?_))
          intro vs ws owns grs _ ats
          have n3 : ws.ownsRow w1.heap.size 3 1 vs (k + 1) ((List.take (k + 1) T3).map (Value.int .i64)) := by rw [K3.out]; simpa [List.map_append, List.map_take] using owns
          obtain ⟨j1, d31⟩ := own_beside m1 b13.symm grs ats
          obtain ⟨j2, d32⟩ := own_beside n2 c23.symm grs ats
          have bels := (belr.alloc hsr _).grown grs (by simp; omega) (fun g hg => (l3.lt g hg).1)
          have J1 := Lib.hid j1
          have J2 := Lib.hid j2
          have J3 := Lib.hid n3
          have D12 := Lib.hid c21.symm
          have D13 := Lib.hid d31.symm
          have D23 := Lib.hid d32.symm
          clear owns grs ats l3 m1 n2 n3 j1 j2 b13 c21 c23 d31 d32 belr hsr
          go_wp2_with fail
          go_roundw
          case rel => exact ⟨k + 1, by omega, by go_num, J1.out, J2.out, J3.out, D12.out, D13.out, D23.out, bels⟩
          case measure => simp [intOf]; omega
      · obtain rfl : n = k := by omega
        rw [List.take_of_length_le (by have := HL1.out; omega)] at o1
        rw [List.take_of_length_le (by have := HL2.out; omega)] at o2
        rw [List.take_of_length_le (by have := HL3.out; omega)] at o3
        obtain ⟨A2, c2, rfl, q1, q2, q3⟩ := own_form o1
        obtain ⟨A3, c3, rfl, q4, q5, q6⟩ := own_form o2
        obtain ⟨A4, c4, rfl, q7, q8, q9⟩ := own_form o3
        have R2 := Lib.hid (Row.of_own o1)
        have R3 := Lib.hid (Row.of_own o2)
        have R4 := Lib.hid (Row.of_own o3)
        have R1 := Lib.hid (RA.out.below (w' := wr) bel)
        have hB := HBel.out.trans (bel.mono HBel.out.size)
        have hl9 := (bel.cell (p := ⟨b, off + (n - 1), none⟩) ltA).trans HL9.out
        clear o1 o2 o3 a12 a13 a23 bel q3 q6 q9
        go_wp2_with fail
        refine (H1.out _ A2 c c2 _ R1.out R2.out).mono ?_
        rintro e w' ⟨rfl, rfl⟩
        go_wp2_with fail
        refine (H2.out _ A3 c c3 _ R1.out R3.out).mono ?_
        rintro e w' ⟨rfl, rfl⟩
        go_wp2_with fail
        refine (H3.out _ A4 c c4 _ R1.out R4.out).mono ?_
        rintro e w' ⟨rfl, rfl⟩
        go_wp2_with fail
        go_ret
        exact ⟨rfl, hB⟩
end Go.Proofs.Ytpcgccmkmolkoaa
