/-
  The walk of the statements' own rising numbers; three rows of the call's own beside each other.
-/
import Derived.Test.YtpcgccmkmolkoaaCh
import Derived.Maps.AppendAt
set_option linter.unusedSimpArgs false
set_option linter.unusedVariables false
namespace Go.Proofs.Ytpcgccmkmolkoaa
open Go.RowKit

def ris (a : Int) : List Int → List Int
  | [] => []
  | x :: l => (a + (1 + within x 9)) :: ris (a + (1 + within x 9)) l
theorem ris_len (l : List Int) : ∀ a, (ris a l).length = l.length := by
  induction l with
  | nil => intro a; rfl
  | cons x l ih => intro a; simp [ris, ih]
theorem ris_get (l : List Int) : ∀ a k, k < l.length → (ris a l).getD k 0 = (if k = 0 then a else (ris a l).getD (k - 1) 0) + (1 + within (l.getD k 0) 9) := by
  induction l with
  | nil => intro a k h; simp at h
  | cons x l ih =>
    intro a k h
    match k with
    | 0 => simp [ris]
    | k + 1 =>
      have := ih (a + (1 + within x 9)) k (by simpa using h)
      simp only [ris, List.getD_cons_succ]
      rw [this]
      match k with
      | 0 => simp
      | k + 1 => simp
/-- The rising numbers out of l. -/
def rs (l : List Int) : List Int := ris 0 (l.take 64)
theorem rs_len (l : List Int) : (rs l).length = min 64 l.length := by simp [rs, ris_len]
theorem rs_get {l : List Int} {k : Nat} (h : k < (rs l).length) : (rs l).getD k 0 = prev (rs l) k + (1 + within (l.getD k 0) 9) := by
  have h2 := h
  rw [rs_len] at h2
  have e := ris_get (l.take 64) 0 k (by simp; omega)
  have g : (l.take 64).getD k 0 = l.getD k 0 := by simp [List.getD, List.getElem?_take, show k < 64 by omega]
  rw [g] at e
  exact e
theorem rs_bd (l : List Int) : ∀ k, k ≤ (rs l).length → 0 ≤ prev (rs l) k ∧ prev (rs l) k ≤ 9 * k := by
  intro k
  induction k with
  | zero => intro _; simp [prev]
  | succ k ih =>
    intro h
    have a := ih (by omega)
    have b := rs_get (l := l) (k := k) (by omega)
    have c := within_bd (l.getD k 0) (n := 9) (by omega)
    rw [prev_succ, b]
    omega
theorem rs_rises (l : List Int) : Rises (rs l) := by
  intro k h
  have a := rs_bd l k (by omega)
  have b := rs_get (l := l) (k := k) h
  have c := within_bd (l.getD k 0) (n := 9) (by omega)
  have d := rs_len l
  omega
theorem rs_facts (l : List Int) : ∃ (ks : List Int) (n : Nat), rs l = ks ∧ ks.length = n ∧ n ≤ 64 ∧ Rises ks ∧ ∀ k, k ≤ n → 0 ≤ prev ks k ∧ prev ks k ≤ 576 :=
  ⟨_, _, rfl, rfl, by rw [rs_len]; omega, rs_rises l, fun k hk => by have := rs_bd l k hk; have := rs_len l; omega⟩

set_option maxRecDepth 20000 in
set_option maxHeartbeats 2000000 in
theorem rising_any (A : Option Addr) (n c : Nat) (l : List Int) (w : World) (h : InRow w A n c l) (ks : List Int) (m : Nat) (hy : rs l = ks) (hm : ks.length = m) :
    Calls Try.prog 30 #[.slice A n c] w fun e w' => ∃ A' c', e = .returned (.slice A' m c') ∧ InRow w' A' m c' ks ∧ Below w.heap.size w w' := by
  obtain ⟨hr, hc, hmx, _⟩ := h
  unfold maxLen at hmx
  have hl := hr.len
  have hv := rs_len l
  have hget : ∀ k, k < m → ks.getD k 0 = prev ks k + (1 + within (l.getD k 0) 9) := fun k hk => by rw [← hy]; exact rs_get (by rw [hy]; omega)
  have hbd : ∀ k, k ≤ m → 0 ≤ prev ks k ∧ prev ks k ≤ 9 * k := fun k hk => by rw [← hy]; exact rs_bd l k (by rw [hy]; omega)
  rw [hy, hm, hl] at hv
  obtain ⟨i0, hi, hz0, hz1, hz2⟩ := info_parts info_int
  have hB : ∀ k, k < m → ∃ b off, A = some ⟨b, off, none⟩ ∧ b < w.heap.size ∧ w.cell? ⟨b, off + k, none⟩ = some (.int .i64 (l.getD k 0)) := fun k hk => hr.each k (by omega)
  have HB := Lib.hid hB
  have HG := Lib.hid hget
  have HBd := Lib.hid hbd
  have HM := Lib.hid hm
  have hcase : (n ≤ m ∧ m ≤ n ∧ (n : Int) ≤ 64) ∨ (¬ (n : Int) ≤ 64 ∧ m ≤ 64 ∧ 64 ≤ m) := by omega
  have hmn : m ≤ n := by omega
  have hm64 : m ≤ 64 := by omega
  have dd : n ≤ m → decide (m < n) = false := fun h => by simp; omega
  have DD := Lib.hid dd
  clear hr hl hv hget hbd hB hm hy dd
  rcases hcase with ⟨h1, h2, h3⟩ | ⟨h1, h2, h3⟩
  all_goals
    try have d1 := DD.out h1
    go_enter Try.func30, Try.ntmps30
    go_wp2_with fail
    go_loopw [3, 4, 13] (fun v p i wr => ∃ (k : Nat) (P : Int), k ≤ m ∧ i = .int .i64 k ∧ p = .int .i64 P ∧ prev ks k = P ∧ wr.ownsRow w.heap.size 3 1 v k ((List.take k ks).map (Value.int .i64)) ∧ Below w.heap.size w wr) (fun _ _ i _ => m - (intOf i).toNat)
    case atStart => exact ⟨0, 0, Nat.zero_le _, rfl, rfl, rfl, World.ownsRow_nil _ _ _ _, Below.refl _ _⟩
    case round =>
      obtain ⟨k, P, hk, rfl, rfl, hP, hown, bel⟩ := hrel
      have hsz := bel.size
      have pb := HBd.out k hk
      rw [hP] at pb
      by_cases hlt : k < m
      · have hg := HG.out k hlt
        rw [hP] at hg
        obtain ⟨bkx, offx, hAx, ltx, hrx⟩ := HB.out k hlt
        subst hAx
        replace hrx := (bel.cell (p := ⟨bkx, offx + k, none⟩) ltx).trans hrx
        obtain ⟨x, hvx, hxx⟩ := name_num hrx
        have HX := Lib.hid hvx
        clear hvx hrx
        rw [← HX.out] at hg
        have wb := within_bd x (n := 9) (by omega)
        obtain ⟨y, hyv⟩ : ∃ y, y = within x 9 := ⟨_, rfl⟩
        rw [← hyv] at hg wb
        have HY := Lib.hid hyv
        have htk : List.take (k + 1) ks = List.take k ks ++ [P + (1 + y)] := by rw [take_snoc _ (by have := HM.out; omega), hg]
        have hpv : prev ks (k + 1) = P + (1 + y) := by rw [prev_succ, hg]
        have HT := Lib.hid htk
        have HP := Lib.hid hpv
        clear hyv htk hg hpv hP
        go_wp2_with fail
        refine (within_any x 9 y _ (by omega) (by omega) HY.out.symm).mono ?_
        rintro e w' ⟨rfl, rfl⟩
        go_wp2_with (at_builtin; (refine wpList_append_own _ rfl _ _ 32 rfl (w.heap.size) 3 i0 (.int .i64 0) 1 8 Try.underlying32 hi hz0 hz1 hz2 rfl (by decide) _ _ _ rfl (World.ownsRow.alloc hown _) ⟨wr.heap.size, 0, none⟩ 1 1 [.int .i64 ((P + (1 + y)))] rfl rfl (app1_cells _ _ _) (app1_one _ _) (by unfold maxLen; omega) (by omega) (by simp; omega) ?_))
        intro vq wq ownq grq _
        have own2 : wq.ownsRow w.heap.size 3 1 vq (k + 1) ((List.take (k + 1) ks).map (Value.int .i64)) := by rw [HT.out]; simpa [List.map_append, List.map_take] using ownq
        have bel2 := (bel.alloc hsz _).grown grq (by simp; omega) (fun g hg => (hown.lt g hg).1)
        have HO := Lib.hid own2
        clear ownq grq hown own2 hxx bel
        go_wp2_with fail
        go_roundw
        case rel => first | exact ⟨k + 1, P + (1 + y), by omega, by go_num, rfl, HP.out, HO.out, bel2⟩ | ((repeat apply Exists.intro); exact ⟨⟨k + 1, P + (1 + y), by omega, by go_num, rfl, HP.out, HO.out, bel2⟩, rfl⟩)
        case measure => simp [intOf]; omega
      · obtain rfl : m = k := by omega
        rw [List.take_of_length_le (by have := HM.out; omega)] at hown
        obtain ⟨A', c', rfl, q1, q2, q3⟩ := own_form hown
        have HO := Lib.hid hown
        clear hown
        go_wp2_with fail
        go_ret
        exact ⟨A', c', rfl, ⟨Row.of_own HO.out, q1, q2, q3⟩, bel⟩

/-- Two values do not share a block. -/
def Apart (v u : Value) : Prop := ∀ g, v.ownBlock = some g → u.ownBlock ≠ some g
theorem Apart.symm {v u : Value} (h : Apart v u) : Apart u v := fun g hu hv => h g hv hu
theorem apart_nil (u : Value) : Apart (.slice none 0 0) u := fun g h => by simp [Value.ownBlock] at h
/-- What is owned beside a row that is appended to stays owned, and apart. -/
theorem own_beside {w w' : World} {B e n : Nat} {v u u' : Value} {xs : List Value} {o : Obj} (h : w.ownsRow B e 1 v n xs) (ha : Apart u v) (hg : (w.alloc o).grownBy w' u.ownBlock)
    (hat : u'.ownBlock = u.ownBlock ∨ u'.ownBlock = some (w.heap.size + 1)) : w'.ownsRow B e 1 v n xs ∧ Apart u' v := by
  refine ⟨(h.alloc o).kept hg ?_, fun g hu hv => ?_⟩
  · rcases hv : v.ownBlock with _ | g
    · exact .inl rfl
    · exact .inr (fun hc => ha g hc.symm hv)
  · rcases hat with h1 | h1
    · exact ha g (h1 ▸ hu) hv
    · have := (h.lt g hv).2
      rw [h1] at hu
      injection hu with hu
      omega
end Go.Proofs.Ytpcgccmkmolkoaa
