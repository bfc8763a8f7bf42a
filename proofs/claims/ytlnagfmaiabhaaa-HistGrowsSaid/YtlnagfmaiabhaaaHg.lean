/-
  hist.Between of none; a Hist that came in; plain: the place of a part.
-/
import Derived.Test.YtlnagfmaiabhaaaHd
import Derived.OpenShut
import Derived.ChangeSame
import Derived.Lib.SmallJoins
set_option linter.unusedSimpArgs false
set_option linter.unusedVariables false
namespace Go.Proofs.Ytlnagfmaiabhaaa
open Go Go.RowKit Go.ChangeShapes Go.WideShapes Go.ChangeAt Go.Joins
set_option maxHeartbeats 8000000 in
set_option maxRecDepth 100000 in
theorem between_none (l : List Int) (p q S : Int) (w : World) (hl : l.length = 26) (hb : Btw 0 1073741824 l) (hq : 1 ≤ q ∧ q ≤ 1000) (hp : 0 ≤ p ∧ p ≤ q) (hS : sumI l = S) (hS0 : S = 0) :
    Calls Try.prog 38 #[.agg (hv l), .int .i64 p, .int .i64 q] w fun e w' => e = .returned (.tuple #[.int .i64 0, .int .i64 0, .int .i64 4]) ∧ Below w.heap.size w w' := by
  obtain ⟨_, hi46⟩ := zero_of_info info46
  obtain ⟨_, hi48⟩ := zero_of_info info48
  have t46 := Try.underlying63
  have HT := Lib.hid Try.underlying65
  have HT46 := Lib.hid t46
  have HC := Lib.hid (fun w => hcheck_ok l w hl hb)
  have hsz : (hv l).size = 26 := by rw [hv_size, hl]
  have hget : ∀ k, k < 26 → (hv l)[k]? = some (.int .i64 (l.getD k 0)) := fun k hk => hv_get l (by omega)
  have hsn : ∀ k, k < 26 → sumI (l.take (k + 1)) = sumI (l.take k) + l.getD k 0 := fun k hk => sumI_snoc l (by omega)
  have hlk : ∀ k, k < 26 → 0 ≤ l.getD k 0 ∧ l.getD k 0 ≤ 1073741824 := fun k hk => hb.get (by omega)
  have hend : sumI (l.take 26) = S := by rw [List.take_of_length_le (by omega), hS]
  have hst : ∀ k, k ≤ 26 → 0 ≤ sumI (l.take k) ∧ sumI (l.take k) ≤ S := fun k hk => by
    have a := sumI_nonneg_take hb (Nat.zero_le k) (by omega)
    have b := sumI_nonneg_take hb hk (by omega)
    have z : sumI (l.take 0) = 0 := rfl
    rw [hend] at b
    exact ⟨by omega, b⟩
  obtain ⟨q1, q2⟩ := hq
  obtain ⟨p1, p2⟩ := hp
  have a1 : ¬ q < 1 := by omega
  have a2 : ¬ 1000 < q := by omega
  have a3 : ¬ p < 0 := by omega
  have a4 : ¬ q < p := by omega
  obtain ⟨c, hc⟩ : ∃ c, hv l = c := ⟨_, rfl⟩
  rw [hc] at HC hsz hget
  rw [hc]
  have HG := Lib.hid hget
  have HSn := Lib.hid hsn
  have HLk := Lib.hid hlk
  have HSt := Lib.hid hst
  have HEnd := Lib.hid hend
  have HI := Lib.hid (show Option.map (fun x => x.size) (Try.prog.info? 65) = some c.size by rw [hsz]; exact hi48)
  have HI46 := Lib.hid (show Option.map (fun x => x.size) (Try.prog.info? 63) = some c.size by rw [hsz]; exact hi46)
  have qa := alloc_cells
  have qf := alloc_frozens
  clear hi46 hi48 hget hsn hlk hst hend hc hb hl hS
  have hld := heap_alloc_last w (.cells c 65)
  have HL := Lib.hid hld
  have HB := Lib.hid ((Below.refl _ w).alloc (Nat.le_refl _) (.cells c 65))
  clear hld
  go_enter Try.func38, Try.ntmps38
  go_wp2_with (refine wpList_load_row rfl _ _ rfl w.heap.size rfl _ c (0, 0) _ HL.out HT.out rfl HI.out ?_)
  refine (HC.out _).mono ?_
  rintro e w1 ⟨rfl, hb1⟩
  have z1 := hb1.size
  simp only [World.size_alloc] at z1
  have H1 := Lib.hid ((hb1.block w.heap.size (by simp)).trans HL.out)
  have bel1 : Below w.heap.size w w1 := HB.out.trans (hb1.mono (by simp))
  clear hb1
  go_wp2_with (refine wpList_load_row rfl _ _ rfl w.heap.size rfl _ c (0, 0) _ H1.out HT46.out rfl HI46.out ?_)
  go_loop [10, 37] (fun v i => ∃ (k : Nat) (T : Int), k ≤ 26 ∧ i = .int .i64 k ∧ v = .int .i64 T ∧ sumI (l.take k) = T) (fun _ i => 26 - (intOf i).toNat)
  case atStart => exact ⟨0, 0, Nat.zero_le _, rfl, rfl, rfl⟩
  case round =>
    obtain ⟨k, T, hk, rfl, rfl, hT⟩ := hrel
    by_cases hlt : k < 26
    · have hx := HG.out k hlt
      have hbx := HLk.out k hlt
      have hs1 := HSn.out k hlt
      have hs2 := HSt.out k hk
      have hs3 := HSt.out (k + 1) (by omega)
      rw [hT] at hs1 hs2
      obtain ⟨x, hxv⟩ : ∃ x, l.getD k 0 = x := ⟨_, rfl⟩
      rw [hxv] at hx hbx hs1
      rw [hs1] at hs3
      have hix := run_index26 w1 c k x hlt hx
      have HS1 := Lib.hid hs1
      clear hxv hs1 hT
      go_wp2_with fail
      go_round
      case rel => exact ⟨k + 1, T + x, by omega, by go_num, rfl, HS1.out⟩
      case measure => simp [intOf]; omega
    · obtain rfl : k = 26 := by omega
      rw [HEnd.out] at hT
      subst hT
      have s0 : (S == 0) = true := by simp [hS0]
      clear hS0
      go_wp2_with fail
      refine bodyPost_ret (v := .tuple #[.int .i64 0, .int .i64 0, .int .i64 4]) (by simp [results, Try.f38, go_sem, ↓IntWalk.iteOmega, *]) rfl ?_
      exact ⟨rfl, bel1⟩

set_option maxRecDepth 20000 in
theorem open_hist {H : Type} {enc : TypeId × Value → H} {W : World} {base : Nat} {spare : Nat → Bool} {held : Bool} {r : Reach} {b0 : Nat} {v : Value} {d : DataW H} {p : List MemPlace}
    (hv0 : Value.okWide Try.prog W r b0 65 v) (h : DataW.Trod enc Try.prog W base spare held 65 v d p) : ∃ l : List Int, v = .agg (hv l) ∧ l.length = 26 := by
  obtain ⟨cs, rfl, hsz⟩ := okWide_struct Try.underlying65 hv0
  have c48 : Try.prog.cellsOf 65 = 26 := by kernel_rfl
  have c46 : Try.prog.cellsOf 63 = 26 := by kernel_rfl
  have c3 : Try.prog.cellsOf 3 = 1 := by kernel_rfl
  rw [c48] at hsz
  obtain ⟨fuel, hf⟩ := h
  obtain ⟨y0, n, _, _, h0⟩ := trod_struct1 Try.underlying65 hf
  simp only [c46] at h0
  obtain ⟨xs, m, _, _, hl, hxl, hi⟩ := DataW.trod_array Try.underlying63 h0
  simp only [c3] at hi
  have hone : ∀ i, i < 26 → ∃ a : Int, cs[i]? = some (.int .i64 a) := fun i h26 => by
    have h1 := hi i h26
    rw [List.getElem?_eq_getElem (by omega)] at h1
    obtain ⟨a, u, _, _⟩ := DataW.trod_int Try.underlying3 h1
    refine ⟨a, ?_⟩
    have h2 := congrArg (fun l : List Value => l[0]?) u
    simpa [List.getElem?_take, List.getElem?_drop, Value.cells, h26] using h2
  refine ⟨cs.toList.map fun v => match v with | .int _ a => a | _ => 0, ?_, by simp [hsz]⟩
  congr 1
  apply Array.ext_getElem?
  intro i
  by_cases c : i < 26
  · obtain ⟨a, ha⟩ := hone i c
    simp [hv, ha]
  · rw [Array.getElem?_eq_none (by omega), Array.getElem?_eq_none (by rw [hv_size]; simp [hsz]; omega)]

/-- The place of a part. -/
theorem place (l : List Int) (hl : l.length = 26) (hb : Btw 0 1073741824 l) {L : Int} (h1 : 0 < L) (h2 : L ≤ sumI l) : ∃ K : Nat, K < 26 ∧ sumI (l.take K) < L ∧ L ≤ sumI (l.take (K + 1)) := by
  have key : ∀ n : Nat, n ≤ 26 → L ≤ sumI (l.take n) → ∃ K : Nat, K < 26 ∧ sumI (l.take K) < L ∧ L ≤ sumI (l.take (K + 1)) := by
    intro n
    induction n with
    | zero => intro _ h; simp [sumI] at h; omega
    | succ n ih =>
      intro hn h
      by_cases c : L ≤ sumI (l.take n)
      · exact ih (by omega) c
      · exact ⟨n, by omega, by omega, h⟩
  exact key 26 (Nat.le_refl _) (by rw [List.take_of_length_le (by omega)]; exact h2)
theorem place_mono {l : List Int} (hl : l.length = 26) (hb : Btw 0 1073741824 l) {L M : Int} {J K : Nat} (hK : K < 26) (h1 : sumI (l.take J) < L) (h2 : M ≤ sumI (l.take (K + 1))) (h : L ≤ M) : J ≤ K := by
  rcases Nat.lt_or_ge K J with c | c
  · by_cases d : J ≤ l.length
    · have := sumI_nonneg_take hb (show K + 1 ≤ J by omega) d
      omega
    · rw [List.take_of_length_le (by omega)] at h1
      have := sumI_nonneg_take hb (show K + 1 ≤ l.length by omega) (Nat.le_refl _)
      rw [List.take_of_length_le (Nat.le_refl _)] at this
      omega
  · exact c
/-- The bounds of a place. -/
def plo (K : Nat) : Int := if K = 0 then 0 else 2 ^ (K - 1)
def phi (K : Nat) : Int := if K = 0 then 0 else min (2 ^ K - 1) 16777216
theorem plo_phi (K : Nat) : if K = 0 then plo K = 0 ∧ phi K = 0 else plo K = 2 ^ (K - 1) ∧ phi K = min (2 ^ K - 1) 16777216 := by
  by_cases h : K = 0 <;> simp [plo, phi, h]
theorem pow_up {a b : Nat} (h : a ≤ b) : (2 : Int) ^ a ≤ 2 ^ b := by
  have h1 : 2 ^ a ≤ 2 ^ b := Nat.pow_le_pow_right (by omega) h
  have h2 : ((2 ^ a : Nat) : Int) = (2 : Int) ^ a := by simp
  have h3 : ((2 ^ b : Nat) : Int) = (2 : Int) ^ b := by simp
  omega
theorem plo_mono {J K : Nat} (h : J ≤ K) : plo J ≤ plo K := by
  unfold plo
  have p := pow_up (show J - 1 ≤ K - 1 by omega)
  have p0 := pow_up (Nat.zero_le (K - 1))
  by_cases c : J = 0
  · rw [if_pos c]; split <;> omega
  · rw [if_neg c, if_neg (by omega)]; exact p
theorem phi_mono {J K : Nat} (h : J ≤ K) : phi J ≤ phi K := by
  unfold phi
  have p := pow_up h
  have p0 := pow_up (Nat.zero_le K)
  by_cases c : J = 0
  · rw [if_pos c]; split <;> omega
  · rw [if_neg c, if_neg (by omega)]; omega
theorem plo_le {K : Nat} (hK : K < 26) : plo K ≤ phi K ∧ 0 ≤ plo K ∧ phi K ≤ 16777216 := by
  unfold plo phi
  by_cases c : K = 0
  · rw [if_pos c, if_pos c]; omega
  · rw [if_neg c, if_neg c]
    obtain ⟨k, rfl⟩ : ∃ k, K = k + 1 := ⟨K - 1, by omega⟩
    have e : (2 : Int) ^ (k + 1) = 2 * 2 ^ k := by rw [Int.pow_succ, Int.mul_comm]
    have p := pow25 (k := k) (by omega)
    have p2 := pow_up (show k ≤ 24 by omega)
    have e24 : (2 : Int) ^ 24 = 16777216 := by decide
    rw [Nat.add_sub_cancel, e]
    omega
theorem double_take (l : List Int) : ∀ k, sumI ((l.map (2 * ·)).take k) = 2 * sumI (l.take k) := by
  induction l with
  | nil => intro k; simp [sumI]
  | cons x l ih =>
    intro k
    cases k with
    | zero => simp [sumI]
    | succ k => simp only [List.map_cons, List.take_succ_cons, sumI, ih k]; omega
end Go.Proofs.Ytlnagfmaiabhaaa
