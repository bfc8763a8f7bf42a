/-
  The walk of the statements' own turns: times that do not fall, out of whatever integers.
-/
import Derived.Test.YtamncanlbopehaaMk
set_option linter.unusedSimpArgs false
set_option linter.unusedVariables false
namespace Go.Proofs.Ytamncanlbopehaa
open Go.RowKit

/-- The cells of turns. -/
def tvs : Nat → List Int → List Value
  | _, [] => []
  | i, t :: r => .int .i64 t :: .bool (par i) :: tvs (i + 1) r
theorem tvs_snoc (t : Int) : ∀ (l : List Int) (i : Nat), tvs i (l ++ [t]) = tvs i l ++ [.int .i64 t, .bool (par (i + l.length))]
  | [], i => by simp [tvs]
  | x :: l, i => by
    simp only [List.cons_append, tvs, tvs_snoc t l (i + 1), List.length_cons]
    rw [show i + 1 + l.length = i + (l.length + 1) by omega]
theorem tvs_len : ∀ (l : List Int) (i : Nat), (tvs i l).length = l.length * 2
  | [], i => rfl
  | x :: l, i => by simp only [tvs, List.length_cons, tvs_len l (i + 1)]; omega
theorem tvs_get : ∀ (l : List Int) (i k : Nat), k < l.length → (tvs i l)[k * 2]? = some (.int .i64 (l.getD k 0)) ∧ (tvs i l)[k * 2 + 1]? = some (.bool (par (i + k)))
  | [], i, k, h => by simp at h
  | x :: l, i, 0, h => by simp [tvs]
  | x :: l, i, k + 1, h => by
    have := tvs_get l (i + 1) k (by simpa using h)
    rw [show (k + 1) * 2 = k * 2 + 2 by omega]
    simp only [tvs, List.getElem?_cons_succ]
    rw [show i + (k + 1) = i + 1 + k by omega]
    exact this
theorem tvs_one : ∀ (l : List Int) (i : Nat), ∀ u ∈ tvs i l, u.oneCell' = true
  | [], i, u, h => by simp [tvs] at h
  | x :: l, i, u, h => by
    simp only [tvs, List.mem_cons] at h
    rcases h with rfl | rfl | h
    · rfl
    · rfl
    · exact tvs_one l (i + 1) u h
theorem TRow.of_own {w : World} {base n c : Nat} {A : Option Addr} {l : List Int} {e : TypeId} (hl : l.length = n) (h : w.ownsRow base e 2 (.slice A n c) n (tvs 0 l)) : TRow w A n l := by
  refine ⟨hl, fun hn => ?_⟩
  obtain ⟨g, cap, hv, _, hlt⟩ := h.form hn
  have hA : A = some ⟨g, 0, none⟩ := by injection hv
  subst hA
  refine ⟨g, 0, rfl, hlt, fun k hk => ?_⟩
  have hg := tvs_get l 0 k (by omega)
  rw [Nat.zero_add] at hg
  have c1 := h.cells (g := g) rfl _ _ hg.1
  have c2 := h.cells (g := g) rfl _ _ hg.2
  rw [Go.WideShapes.add_plain] at c1 c2
  exact ⟨c1, c2⟩

/-- The times. -/
def tms : Int → List Int → List Int
  | _, [] => []
  | s, x :: r => (s + within x 30) :: tms (s + within x 30) r
theorem tms_len : ∀ (l : List Int) (s : Int), (tms s l).length = l.length
  | [], s => rfl
  | x :: l, s => by simp only [tms, List.length_cons, tms_len l]
theorem tms_get : ∀ (l : List Int) (s : Int) (k : Nat), k < l.length → (tms s l).getD k 0 = (if k = 0 then s else (tms s l).getD (k - 1) 0) + within (l.getD k 0) 30
  | [], s, k, h => by simp at h
  | x :: l, s, 0, h => by simp [tms]
  | x :: l, s, k + 1, h => by
    have := tms_get l (s + within x 30) k (by simpa using h)
    simp only [tms, List.getD_cons_succ, Nat.add_sub_cancel]
    rw [this]
    rcases Nat.eq_zero_or_pos k with rfl | hk
    · simp
    · rw [if_neg (by omega), if_neg (by omega)]
      have e : ((s + within x 30) :: tms (s + within x 30) l).getD k 0 = (tms (s + within x 30) l).getD (k - 1) 0 := by
        obtain ⟨j, rfl⟩ : ∃ j, k = j + 1 := ⟨k - 1, by omega⟩
        simp
      rw [e]
theorem turns_pack (l : List Int) : ∃ (ts : List Int) (n : Nat), tms 0 (l.take 64) = ts ∧ ts.length = n ∧ n ≤ 64 ∧ n ≤ l.length ∧ ((l.length : Int) ≤ 64 ∧ n = l.length ∨ ¬ (l.length : Int) ≤ 64 ∧ n = 64) ∧ (∀ k, k < n → ts.getD k 0 = bef ts k + within (l.getD k 0) 30) ∧
    (∀ k, k ≤ n → 0 ≤ bef ts k ∧ bef ts k ≤ 29 * k) := by
  have hl : (tms 0 (l.take 64)).length = min 64 l.length := by rw [tms_len]; simp
  have hg : ∀ k, k < (tms 0 (l.take 64)).length → (tms 0 (l.take 64)).getD k 0 = bef (tms 0 (l.take 64)) k + within (l.getD k 0) 30 := fun k hk => by
    rw [hl] at hk
    rw [tms_get _ _ _ (by simp; omega)]
    unfold bef
    have : (l.take 64).getD k 0 = l.getD k 0 := by simp [List.getD, List.getElem?_take, show k < 64 by omega]
    rw [this]
  refine ⟨_, _, rfl, rfl, by omega, by omega, by omega, hg, fun k => ?_⟩
  induction k with
  | zero => intro _; simp [bef]
  | succ k ih =>
    intro hk
    have a := ih (by omega)
    have b := hg k (by omega)
    have c := within_bd (l.getD k 0) (n := 30) (by omega)
    rw [bef_succ]
    omega
theorem turns_mono {ts : List Int} {n : Nat} {l : List Int} (hn : ts.length = n) (h : ∀ k, k < n → ts.getD k 0 = bef ts k + within (l.getD k 0) 30) {e : Int} (he : bef ts n ≤ e) (h0 : 0 ≤ e) : Mono ts e := by
  refine ⟨h0, fun k hk => ?_⟩
  rw [hn] at hk
  have c := within_bd (l.getD k 0) (n := 30) (by omega)
  refine ⟨by have := h k hk; omega, ?_⟩
  have up : ∀ j, k + 1 + j ≤ n → ts.getD k 0 ≤ bef ts (k + 1 + j) := by
    intro j
    induction j with
    | zero => intro _; rw [Nat.add_zero, bef_succ]; exact Int.le_refl _
    | succ j ih =>
      intro hj
      have a := ih (by omega)
      have b := h (k + 1 + j) (by omega)
      have d := within_bd (l.getD (k + 1 + j) 0) (n := 30) (by omega)
      rw [show k + 1 + (j + 1) = (k + 1 + j) + 1 by omega, bef_succ]
      omega
  have := up (n - (k + 1)) (by omega)
  rw [show k + 1 + (n - (k + 1)) = n by omega] at this
  omega
theorem info_turn : (Try.prog.info? 47).map (fun i => (i.zero, i.size, i.bytes)) = some (some (.agg #[.int .i64 0, .bool false]), 2, 16) := by kernel_rfl
theorem tv_cells (w : World) (y : Int) (p : Bool) (T : TypeId) : ∀ j u, [Value.int .i64 y, Value.bool p][j]? = some u → (w.alloc (.cells #[.int .i64 y, .bool p] T)).cell? ((⟨w.heap.size, 0, none⟩ : Addr).add j) = some u := by
  intro j u hj
  match j, hj with
  | 0, hj => simp at hj; subst hj; rw [Go.WideShapes.add_plain, World.cell?_alloc_new]; simp
  | 1, hj => simp at hj; subst hj; rw [Go.WideShapes.add_plain, World.cell?_alloc_new]; simp
theorem tv_one (y : Int) (p : Bool) : ∀ u ∈ [Value.int .i64 y, Value.bool p], u.oneCell' = true := by
  intro u hu; simp at hu; rcases hu with rfl | rfl <;> rfl
/-- Turns that the call made. -/
def InTurns (w : World) (A : Option Addr) (n c : Nat) (l : List Int) : Prop := TRow w A n l ∧ n ≤ c ∧ c ≤ maxLen ∧ (A = none → n = 0 ∧ c = 0)
theorem tmod2 (k : Nat) : ((k : Int) % 2 == 0) = par k := by
  unfold par
  rcases Nat.mod_two_eq_zero_or_one k with h | h
  · have : (k : Int) % 2 = 0 := by omega
    rw [this, h]; rfl
  · have : (k : Int) % 2 = 1 := by omega
    rw [this, h]; rfl

set_option maxRecDepth 20000 in
set_option maxHeartbeats 2000000 in
theorem turns_at (A : Option Addr) (len c : Nat) (l : List Int) (w : World) (h : InRow w A len c l) (ts : List Int) (n : Nat) (E : Int) (hy : tms 0 (l.take 64) = ts) (hn : ts.length = n) (hE : bef ts n = E) :
    Calls Try.prog 26 #[.slice A len c] w fun e w' => ∃ A' c', e = .returned (.tuple #[.slice A' n c', .int .i64 E]) ∧ InTurns w' A' n c' ts ∧ Below w.heap.size w w' := by
  obtain ⟨ts', n', hy', hn', h64, hnl, hcs, hget, hbd⟩ := turns_pack l
  obtain rfl : ts' = ts := hy'.symm.trans hy
  obtain rfl : n' = n := hn'.symm.trans hn
  obtain ⟨hr, hc, hm, _⟩ := h
  unfold maxLen at hm
  have hl := hr.len
  rw [hl] at hnl hcs
  have hB : ∀ k, k < n' → ∃ b off, A = some ⟨b, off, none⟩ ∧ b < w.heap.size ∧ w.cell? ⟨b, off + k, none⟩ = some (.int .i64 (l.getD k 0)) := fun k hk => hr.each k (by omega)
  have HB := Lib.hid hB
  have HG := Lib.hid hget
  have HBd := Lib.hid hbd
  have HN := Lib.hid hn
  have HE := Lib.hid hE
  obtain ⟨i0, hi, hz0, hz1, hz2⟩ := info_parts info_turn
  clear hr hl hB hget hbd hn hn' hy hy' hE
  have hcase : (len ≤ n' ∧ n' ≤ len ∧ (len : Int) ≤ 64) ∨ (¬ (len : Int) ≤ 64 ∧ n' ≤ 64 ∧ 64 ≤ n') := by omega
  have dd : len ≤ n' → decide (n' < len) = false := fun h => by simp; omega
  have DD := Lib.hid dd
  clear hcs dd
  rcases hcase with ⟨h1, h2, h3⟩ | ⟨h1, h2, h3⟩
  all_goals
    try have d1 := DD.out h1
    go_enter Try.func26, Try.ntmps26
    go_wp2_with fail
    go_loopw [4, 5, 14] (fun v p i wr => ∃ (k : Nat) (P : Int), k ≤ n' ∧ i = .int .i64 k ∧ p = .int .i64 P ∧ bef ts' k = P ∧ wr.ownsRow w.heap.size 47 2 v k (tvs 0 (List.take k ts')) ∧ Below w.heap.size w wr) (fun _ _ i _ => n' - (intOf i).toNat)
    case atStart => exact ⟨0, 0, Nat.zero_le _, rfl, rfl, rfl, World.ownsRow_nil _ _ _ _, Below.refl _ _⟩
    case round =>
      obtain ⟨k, P, hk, rfl, rfl, hP, hown, bel⟩ := hrel
      have hsz := bel.size
      have pb := HBd.out k hk
      rw [hP] at pb
      by_cases hlt : k < n'
      · have hg := HG.out k hlt
        rw [hP] at hg
        obtain ⟨bkx, offx, hAx, ltx, hrx⟩ := HB.out k hlt
        subst hAx
        replace hrx := (bel.cell (p := ⟨bkx, offx + k, none⟩) ltx).trans hrx
        obtain ⟨x, hvx, hxx⟩ := name_num hrx
        have HX := Lib.hid hvx
        clear hvx hrx
        rw [← HX.out] at hg
        have wb := within_bd x (n := 30) (by omega)
        obtain ⟨y, hyv⟩ : ∃ y, y = within x 30 := ⟨_, rfl⟩
        rw [← hyv] at hg wb
        have HY := Lib.hid hyv
        have htk : tvs 0 (List.take (k + 1) ts') = tvs 0 (List.take k ts') ++ [.int .i64 (P + y), .bool (par k)] := by
          rw [take_snoc _ (by have := HN.out; omega), hg, tvs_snoc]
          have : (List.take k ts').length = k := by simp; have := HN.out; omega
          rw [this, Nat.zero_add]
        have hpv : bef ts' (k + 1) = P + y := by rw [bef_succ, hg]
        have HT := Lib.hid htk
        have HP := Lib.hid hpv
        have tm := tmod2 k
        clear hyv htk hg hpv hP
        go_wp2_with fail
        refine (within_any x 30 y _ (by omega) (by omega) HY.out.symm).mono ?_
        rintro e w' ⟨rfl, rfl⟩
        go_wp2_with (at_builtin; (refine wpList_append_own _ rfl _ _ 48 rfl w.heap.size 47 i0 _ 2 16 Try.underlying48 hi hz0 hz1 hz2 rfl (by decide) _ _ _ rfl (World.ownsRow.alloc hown _) ⟨wr.heap.size, 0, none⟩ 1 1 [.int .i64 (P + y), .bool (par k)] rfl rfl (tv_cells _ _ _ _) (tv_one _ _) (by unfold maxLen; omega) (by omega) (by simp; omega) ?_))
        intro vq wq ownq grq _
        have own2 : wq.ownsRow w.heap.size 47 2 vq (k + 1) (tvs 0 (List.take (k + 1) ts')) := by rw [HT.out]; exact ownq
        have bel2 := (bel.alloc hsz _).grown grq (by simp; omega) (fun g hg => (hown.lt g hg).1)
        have HO := Lib.hid own2
        clear ownq grq hown own2 hxx bel tm
        go_wp2_with fail
        go_roundw
        case rel => exact ⟨k + 1, P + y, by omega, by go_num, rfl, HP.out, HO.out, bel2⟩
        case measure => simp [intOf]; omega
      · obtain rfl : n' = k := by omega
        rw [List.take_of_length_le (by have := HN.out; omega)] at hown
        obtain ⟨A', c', rfl, q1, q2, q3⟩ := own_form hown
        have HO := Lib.hid hown
        have hPE : P = E := hP.symm.trans HE.out
        subst hPE
        clear hown hP
        go_wp2_with fail
        go_ret2
        exact ⟨A', c', rfl, ⟨TRow.of_own HN.out HO.out, q1, q2, q3⟩, bel⟩
end Go.Proofs.Ytamncanlbopehaa
