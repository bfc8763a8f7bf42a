import Derived.Test.YtamncanlbopehaaMl
set_option linter.unusedSimpArgs false
set_option linter.unusedVariables false
namespace Go.Proofs.Ytamncanlbopehaa
open Go.RowKit

/-- As many turns as there were by time t. -/
def cN : List Int → Int → Nat
  | [], _ => 0
  | x :: r, t => if x ≤ t then cN r t + 1 else 0
theorem cN_facts : ∀ (l : List Int) (t : Int), cN l t ≤ l.length ∧ (∀ j, j < cN l t → l.getD j 0 ≤ t) ∧ (cN l t < l.length → t < l.getD (cN l t) 0)
  | [], t => ⟨Nat.le_refl _, fun j h => absurd h (by simp [cN]), fun h => absurd h (by simp [cN])⟩
  | x :: r, t => by
    obtain ⟨h1, h2, h3⟩ := cN_facts r t
    unfold cN
    by_cases c : x ≤ t
    · rw [if_pos c]
      refine ⟨by simp; omega, fun j hj => ?_, fun h => ?_⟩
      · rcases j with _ | j
        · simpa using c
        · simpa using h2 j (by omega)
      · simpa using h3 (by simpa using h)
    · rw [if_neg c]
      exact ⟨Nat.zero_le _, fun j hj => absurd hj (by omega), fun _ => by simp; omega⟩
/-- At how many of m times from s on it is suspected. -/
def tk (i : Nat) (l : List Int) (s : Int) : Nat → Int
  | 0 => 0
  | m + 1 => tk i l s m + if par (i + cN l (s + m)) then 0 else 1
theorem tk_add (i : Nat) (l : List Int) (s : Int) (a : Nat) : ∀ b, tk i l s (a + b) = tk i l s a + tk i l (s + a) b
  | 0 => by simp [tk]
  | b + 1 => by
    rw [← Nat.add_assoc]
    simp only [tk, tk_add i l s a b]
    rw [show s + ((a + b : Nat) : Int) = s + (a : Int) + (b : Int) by omega]
    omega
theorem tk_flat (i : Nat) (l : List Int) (s : Int) (m : Nat) (v : Nat) (h : ∀ j : Nat, j < m → cN l (s + j) = v) : tk i l s m = m * (if par (i + v) then 0 else 1) := by
  induction m with
  | zero => simp [tk]
  | succ m ih =>
    simp only [tk]
    rw [ih (fun j hj => h j (by omega)), h m (by omega), Int.natCast_add, Int.add_mul]
    split <;> omega
theorem tk_cons (i : Nat) (x : Int) (r : List Int) (s : Int) (m : Nat) (h : x ≤ s) : tk i (x :: r) s m = tk (i + 1) r s m := by
  induction m with
  | zero => rfl
  | succ m ih =>
    have e : cN (x :: r) (s + m) = cN r (s + m) + 1 := by
      simp only [cN]; rw [if_pos (by omega)]
    have e2 : i + (cN r (s + m) + 1) = i + 1 + cN r (s + m) := by omega
    simp only [tk, ih]
    rw [e, e2]
/-- How long, from s on. -/
def bl (i : Nat) (s : Int) : List Int → Int → Int
  | [], F => if par i then 0 else F - s
  | x :: r, F => (if par i then 0 else x - s) + bl (i + 1) x r F
theorem tk_bl (F : Int) : ∀ (l : List Int) (i : Nat) (s : Int), s ≤ F → (∀ k, k < l.length → (if k = 0 then s else l.getD (k - 1) 0) ≤ l.getD k 0 ∧ l.getD k 0 ≤ F) → tk i l s (F - s).toNat = bl i s l F
  | [], i, s, hs, _ => by
    rw [tk_flat i [] s _ 0 (fun j _ => rfl)]
    unfold bl
    rw [Nat.add_zero]
    split <;> omega
  | x :: r, i, s, hs, h => by
    have h0 := h 0 (by simp)
    simp at h0
    obtain ⟨d, hd⟩ : ∃ d : Nat, x - s = d := ⟨(x - s).toNat, by omega⟩
    obtain ⟨e, he⟩ : ∃ e : Nat, F - x = e := ⟨(F - x).toNat, by omega⟩
    have e1 : (F - s).toNat = d + e := by omega
    have e2 : s + (d : Int) = x := by omega
    rw [e1, tk_add, e2, tk_cons i x r x e (Int.le_refl _)]
    have ih := tk_bl F r (i + 1) x h0.2 (fun k hk => by
      have := h (k + 1) (by simpa using hk)
      rw [if_neg (by omega)] at this
      simp only [Nat.add_sub_cancel, List.getD_cons_succ] at this
      rcases Nat.eq_zero_or_pos k with rfl | hk0
      · simpa using this
      · rw [if_neg (by omega)]
        obtain ⟨j, rfl⟩ : ∃ j, k = j + 1 := ⟨k - 1, by omega⟩
        simpa using this)
    have e3 : (F - x).toNat = e := by omega
    rw [e3] at ih
    rw [ih, tk_flat i (x :: r) s d 0 (fun j hj => by unfold cN; rw [if_neg (by omega)])]
    simp only [bl, Nat.add_zero]
    split <;> omega
theorem bd_bl (ts : List Int) (F : Int) : ∀ k, k ≤ ts.length → bdS (ts ++ [F]) k + bl k (bef ts k) (ts.drop k) F = bl 0 0 ts F := by
  intro k
  induction k with
  | zero => intro _; simp [bdS, bef]
  | succ k ih =>
    intro hk
    have a := ih (by omega)
    have hd : ts.drop k = ts.getD k 0 :: ts.drop (k + 1) := by
      rw [List.drop_eq_getElem_cons (by omega)]
      congr 1
      simp [List.getD, show k < ts.length by omega]
    rw [hd] at a
    simp only [bl] at a
    simp only [bdS]
    rw [bef_append ts F (by omega), get_append ts F (by omega), bef_succ]
    omega
theorem ticks_bad (ts : List Int) (n : Nat) (F : Int) (hn : ts.length = n) (hm : Mono ts F) : tk 0 ts 0 F.toNat = bdS (ts ++ [F]) (n + 1) := by
  subst hn
  have a := bd_bl ts F ts.length (Nat.le_refl _)
  have b := tk_bl F ts 0 0 hm.1 (fun k hk => hm.2 k hk)
  rw [Int.sub_zero] at b
  rw [b, ← a, List.drop_length]
  simp only [bdS, bl, get_last]
  rw [bef_append ts F (Nat.le_refl _)]
theorem tk_bd (i : Nat) (l : List Int) (s : Int) (m : Nat) : 0 ≤ tk i l s m ∧ tk i l s m ≤ m := by
  induction m with
  | zero => simp [tk]
  | succ m ih => simp only [tk]; split <;> omega

set_option maxRecDepth 100000 in
set_option maxHeartbeats 8000000 in
theorem marksTicks_walk (a : Option Addr) (len cap : Nat) (l : List Int) (p : Int) (w : World) (hin : InRow w a len cap l) (_ : (Lit.int .i64 p).wf = true) :
    Calls Try.prog 9 #[.slice a len cap, .int .i64 p] w fun e w' =>
      e = .returned (.bool true) ∧ Below w.heap.size w w' := by
  obtain ⟨ts, n, hy, hn, h64, _, _, hget, hbd⟩ := turns_pack l
  have eb := hbd n (Nat.le_refl _)
  obtain ⟨E, hE⟩ : ∃ E, bef ts n = E := ⟨_, rfl⟩
  rw [hE] at eb
  have b1 := within_bd p (n := 50) (by omega)
  obtain ⟨P, e_P⟩ : ∃ z_, within p 50 = z_ := ⟨_, rfl⟩
  rw [e_P] at b1
  have HP := Lib.hid e_P
  clear e_P
  obtain ⟨F, hF⟩ : ∃ F, E + P = F := ⟨_, rfl⟩
  have hmo := turns_mono hn hget (e := F) (by omega) (by omega)
  obtain ⟨B, G, hB, hG, hBG, B0, G0⟩ := marks_pack ts n F hn hmo
  obtain ⟨T, hT⟩ : ∃ T : Int, ((n + 1) / 2 : Nat) = T := ⟨_, rfl⟩
  have htb := ticks_bad ts n F hn hmo
  rw [hB] at htb
  have fb : 0 ≤ F ∧ F ≤ 2000 := by omega
  obtain ⟨N, rfl⟩ := Int.eq_ofNat_of_zero_le fb.1
  rw [Int.toNat_natCast] at htb
  have h0 : ∀ w', _ := fun w' => mat_ok _ 1 1 1 [3] 10 3 _ (in_one w' 3).1 (by omega) ⟨by omega, by decide⟩ (by omega) (by omega) (Nat.le_refl _) (by decide) (fun h => by omega)
  have h0 := h0 w
  have h1 : ∀ w', InRow w' a len cap l → _ := fun w' h => turns_at a len cap l w' h ts n E hy hn hE
  have h2 : ∀ A c w', InTurns w' A n c ts → _ := fun A c w' h => mof_at A n c ts (N : Int) B G T w' h h64 hmo (by omega) hB hG hT
  have h4 : ∀ (k : Nat) A c w', k ≤ N → InTurns w' A n c ts → _ := fun k A c w' hk h => mat_ok A n c (cN ts k) ts (N : Int) k w' h.1 h64 hmo (by omega) (by omega) (by rw [← hn]; exact (cN_facts ts k).1) (cN_facts ts k).2.1 (fun h => (cN_facts ts k).2.2 (by rw [hn]; exact h))
  have H0 := Lib.hid h0
  have H1 := Lib.hid h1
  have H2 := Lib.hid h2
  have H4 := Lib.hid h4
  have HIn := Lib.hid hin
  have HTB := Lib.hid htb
  have N2 : N ≤ 2000 := by omega
  have qa := alloc_cells
  have qf := alloc_frozens
  clear h0 h1 h2 h4 hin hB hG hT hmo hE hget hbd hn hy htb
  go_enter Try.func9, Try.ntmps9
  go_wp2_with fail
  refine (H0.out).mono ?_
  rintro e w1 ⟨rfl, hb1⟩
  have z1 := hb1.size
  have c1 := Below.cells hb1
  have f1 := Below.frozens hb1
  try simp only [World.size_alloc, World.size_setCell, World.size_drew] at z1 c1 f1
  go_wp2_with fail
  refine (H1.out _ (HIn.out.below (by repeat (first | (with_reducible exact Below.refl _ _) | ((with_reducible refine Below.alloc ?_ ?_ _); rotate_left; (next => ((try dsimp only); (try simp only [World.size_alloc, World.size_setCell, World.size_drew]); omega))) | ((with_reducible refine Below.setCell ?_ ?_ _); rotate_left; (next => ((try dsimp only); (try simp only [World.size_alloc, World.size_setCell, World.size_drew]); omega))) | (with_reducible refine Below.drew ?_) | ((with_reducible refine Below.trans ?_ (Below.mono hb1 ?_)); rotate_left; (next => ((try dsimp only); (try simp only [World.size_alloc, World.size_setCell, World.size_drew]); omega))))))).mono ?_
  rintro e w2 ⟨A, c, rfl, hin2, hb2⟩
  have HT := Lib.hid hin2
  clear hin2
  have z2 := hb2.size
  have c2 := Below.cells hb2
  have f2 := Below.frozens hb2
  try simp only [World.size_alloc, World.size_setCell, World.size_drew] at z2 c2 f2
  go_wp2_with fail
  refine (within_any p 50 P _ (by omega) (by omega) HP.out).mono ?_
  rintro e w' ⟨rfl, rfl⟩
  go_wp2_with fail
  refine (H2.out A c _ (HT.out.below (by repeat (first | (with_reducible exact Below.refl _ _) | ((with_reducible refine Below.alloc ?_ ?_ _); rotate_left; (next => ((try dsimp only); (try simp only [World.size_alloc, World.size_setCell, World.size_drew]); omega))) | ((with_reducible refine Below.setCell ?_ ?_ _); rotate_left; (next => ((try dsimp only); (try simp only [World.size_alloc, World.size_setCell, World.size_drew]); omega))) | (with_reducible refine Below.drew ?_) | (refine Below.trans ?_ (by assumption)))))).mono ?_
  rintro e w3 ⟨rfl, hb3⟩
  have z3 := hb3.size
  have c3 := Below.cells hb3
  have f3 := Below.frozens hb3
  try simp only [World.size_alloc, World.size_setCell, World.size_drew] at z3 c3 f3
  go_wp2_with fail
  have bel3 : Below w.heap.size w w3 := (by repeat (first | (with_reducible exact Below.refl _ _) | ((with_reducible refine Below.alloc ?_ ?_ _); rotate_left; (next => ((try dsimp only); (try simp only [World.size_alloc, World.size_setCell, World.size_drew]); omega))) | ((with_reducible refine Below.setCell ?_ ?_ _); rotate_left; (next => ((try dsimp only); (try simp only [World.size_alloc, World.size_setCell, World.size_drew]); omega))) | (with_reducible refine Below.drew ?_) | ((with_reducible refine Below.trans ?_ (Below.mono hb3 ?_)); rotate_left; (next => ((try dsimp only); (try simp only [World.size_alloc, World.size_setCell, World.size_drew]); omega))) | ((with_reducible refine Below.trans ?_ (Below.mono hb2 ?_)); rotate_left; (next => ((try dsimp only); (try simp only [World.size_alloc, World.size_setCell, World.size_drew]); omega))) | ((with_reducible refine Below.trans ?_ (Below.mono hb1 ?_)); rotate_left; (next => ((try dsimp only); (try simp only [World.size_alloc, World.size_setCell, World.size_drew]); omega)))))
  have HB3 := Lib.hid bel3
  have z3' := z3
  have R3 := Lib.hid (HT.out.below (w' := w3) (by repeat (first | (with_reducible exact Below.refl _ _) | ((with_reducible refine Below.alloc ?_ ?_ _); rotate_left; (next => ((try dsimp only); (try simp only [World.size_alloc, World.size_setCell, World.size_drew]); omega))) | ((with_reducible refine Below.setCell ?_ ?_ _); rotate_left; (next => ((try dsimp only); (try simp only [World.size_alloc, World.size_setCell, World.size_drew]); omega))) | (with_reducible refine Below.drew ?_) | ((with_reducible refine Below.trans ?_ (Below.mono hb3 ?_)); rotate_left; (next => ((try dsimp only); (try simp only [World.size_alloc, World.size_setCell, World.size_drew]); omega))))))
  have mlt : w3.heap.size < w3.heap.size + 1 := by omega
  go_loopw [11, 43] (fun v i wr => ∃ (k : Nat) (M : Int), k ≤ N ∧ i = .int .i64 k ∧ v = .int .i64 M ∧ tk 0 ts 0 k = M ∧ wr.cell? ⟨w3.heap.size, 1, none⟩ = some (.int .i64 B) ∧ Below (w3.heap.size + 1) (w3.alloc (.cells #[.int .i64 T, .int .i64 B, .int .i64 G] 43)) wr) (fun _ i _ => N - (intOf i).toNat)
  case atStart => exact ⟨0, 0, Nat.zero_le _, rfl, rfl, rfl, by rw [World.cell?_alloc_new]; rfl, Below.refl _ _⟩
  case round =>
    obtain ⟨k, M, hk, rfl, rfl, hM, hc, bel⟩ := hrel
    have hsz := bel.size
    simp only [World.size_alloc] at hsz
    have mb := tk_bd 0 ts 0 k
    rw [hM] at mb
    by_cases hlt : k < N
    · have hs : tk 0 ts 0 (k + 1) = tk 0 ts 0 k + if par (0 + cN ts (0 + k)) then 0 else 1 := rfl
      rw [hM, Nat.zero_add, Int.zero_add] at hs
      have R4 := Lib.hid (R3.out.below (w' := wr) (((Below.refl w3.heap.size w3).alloc (Nat.le_refl _) _).trans (bel.mono (by omega))))
      have h4 := H4.out k A c wr (by omega) R4.out
      rcases hp : par (cN ts k) with _ | _
      all_goals
        rw [hp] at hs h4
        simp only [Bool.not_true, Bool.not_false, if_true, if_false, Bool.false_eq_true, Int.add_zero] at hs h4
        have HS := Lib.hid hs
        have H5 := Lib.hid h4
        clear hs h4 hp hM
        go_wp2_with fail
        refine (H5.out).mono ?_
        rintro e w5 ⟨rfl, hb5⟩
        have z5 := hb5.size
        have c5 := Below.cells hb5
        have f5 := Below.frozens hb5
        try simp only [World.size_alloc, World.size_setCell, World.size_drew] at z5 c5 f5
        go_wp2_with fail
        have hc5 := (hb5.cell (p := ⟨w3.heap.size, 1, none⟩) (show w3.heap.size < wr.heap.size by omega)).trans hc
        have B5 := bel.trans (hb5.mono (show w3.heap.size + 1 ≤ wr.heap.size by omega))
        go_roundw
        case rel => exact ⟨k + 1, _, by omega, by go_num, rfl, HS.out, hc5, B5⟩
        case measure => simp [intOf]; omega
    · obtain rfl : N = k := by omega
      rw [HTB.out] at hM
      subst hM
      have BB := HB3.out.trans (((Below.refl w3.heap.size w3).alloc (Nat.le_refl _) (.cells #[.int .i64 T, .int .i64 B, .int .i64 G] 43)).trans (bel.mono (by omega)) |>.mono (by omega))
      clear c1 c2 c3 f1 f2 f3 bel
      go_wp2_with fail
      go_ret
      exact ⟨rfl, BB⟩
end Go.Proofs.Ytamncanlbopehaa
