
/-
  The walks of package marks (Check, At) over turns that alternate: what stands in memory is a list of times.
  The walk of the statements' own turns: times that do not fall, out of whatever integers.
  The walk of marks.Of over turns that alternate.
  What the laws of marks share: turns and all that is asked of them; rows written out.
-/
import Derived.Test.YtpomdnglknbanaaGreatLs
import Derived.Test.YtpomdnglknbanaaGreatCm
import Derived.Test.YtpomdnglknbanaaGreatQA
set_option linter.unusedSimpArgs false
set_option linter.unusedVariables false
namespace Go.Proofs.YtpomdnglknbanaaGreat
open Go.RowKit

/-- The time before the k-th turn. -/
def bef (us : List Int) (k : Nat) : Int := if k = 0 then 0 else us.getD (k - 1) 0
theorem bef_succ (us : List Int) (k : Nat) : bef us (k + 1) = us.getD k 0 := by simp [bef]
/-- Times that do not fall, from 0 up to e. -/
def Mono (us : List Int) (e : Int) : Prop := 0 ≤ e ∧ ∀ k, k < us.length → bef us k ≤ us.getD k 0 ∧ us.getD k 0 ≤ e
/-- A turn suspects, or trusts, by turns. -/
def par (k : Nat) : Bool := k % 2 == 0
theorem par_succ (k : Nat) : par (k + 1) = !par k := by
  unfold par
  rcases Nat.mod_two_eq_zero_or_one k with h | h
  · rw [show (k + 1) % 2 = 1 by omega, h]; rfl
  · rw [show (k + 1) % 2 = 0 by omega, h]; rfl
/-- The slice with address A and n turns has the times l. -/
def MRow (w : World) (A : Option Addr) (n : Nat) (l : List Int) : Prop :=
  l.length = n ∧ (0 < n → ∃ b off, A = some ⟨b, off, none⟩ ∧ b < w.heap.size ∧ ∀ k, k < n → w.cell? ⟨b, off + k * 2, none⟩ = some (.int .i64 (l.getD k 0)) ∧ w.cell? ⟨b, off + k * 2 + 1, none⟩ = some (.bool (par k)))
theorem MRow.below {w w' : World} {A : Option Addr} {n : Nat} {l : List Int} (h : MRow w A n l) (hb : Below w.heap.size w w') : MRow w' A n l :=
  ⟨h.1, fun hn => by
    obtain ⟨b, off, e, lt, hc⟩ := h.2 hn
    exact ⟨b, off, e, Nat.lt_of_lt_of_le lt hb.size, fun k hk => ⟨(hb.cell (p := ⟨b, off + k * 2, none⟩) lt).trans (hc k hk).1, (hb.cell (p := ⟨b, off + k * 2 + 1, none⟩) lt).trans (hc k hk).2⟩⟩⟩

set_option maxHeartbeats 2000000 in
theorem mcheck_ok (A : Option Addr) (n c : Nat) (l : List Int) (e : Int) (w : World) (h : MRow w A n l) (hm : n ≤ 64) (hl : Mono l e) (he : e ≤ 1073741824) :
    Calls Tryz.prog 34 #[.slice A n c, .int .i64 e] w fun x w' => x = .returned (.int .i64 0) ∧ Below w.heap.size w w' := by
  obtain ⟨e0, hmo⟩ := hl
  have hlen := h.1
  rw [hlen] at hmo
  have HM := Lib.hid hmo
  have HT := Lib.hid h
  clear h hmo hlen
  go_enter Tryz.func34, Tryz.ntmps34
  go_wp2_with fail
  go_loopw [5, 6, 20] (fun la is i wr => ∃ (k : Nat) (L : Int), k ≤ n ∧ i = .int .i64 k ∧ la = .int .i64 L ∧ bef l k = L ∧ is = .bool (!par k) ∧ Below w.heap.size w wr) (fun _ _ i _ => n - (intOf i).toNat)
  case atStart => exact ⟨0, 0, Nat.zero_le _, rfl, rfl, rfl, rfl, Below.refl _ _⟩
  case round =>
    obtain ⟨k, L, hk, rfl, rfl, hL, rfl, bel⟩ := hrel
    have hsz := bel.size
    by_cases hlt : k < n
    · obtain ⟨b, off, rfl, ltA, hc⟩ := HT.out.2 (by omega)
      have hm2 := HM.out k hlt
      rw [hL] at hm2
      have hs := bef_succ l k
      have h1 := (bel.cell (p := ⟨b, off + k * 2, none⟩) ltA).trans (hc k hlt).1
      have h2 := (bel.cell (p := ⟨b, off + k * 2 + 1, none⟩) ltA).trans (hc k hlt).2
      obtain ⟨x, hx⟩ : ∃ x, l.getD k 0 = x := ⟨_, rfl⟩
      rw [hx] at hm2 h1 hs
      have HS := Lib.hid hs
      obtain ⟨m1, m2⟩ := hm2
      clear hc hx hs hL
      have hp : (par k == !par k) = false := by cases par k <;> rfl
      go_wp2_with fail
      refine wp_region_quiet_all (Ext _) (by kernel_rfl) (by kernel_rfl) (Ext.drawn _) ?_
      repeat (first | go_big_quiet_skip | go_big_quiet_step (fail) | (refine BigFrame.wpQuiet_want rfl (fun K hK => ?_); apply Exists.intro; refine ⟨fun w2 h2 => ?_, ?_⟩; (next => (have g1 := Below.cells h2.below; have g2 := Below.frozens h2.below; (try simp only [World.size_alloc, World.size_setCell] at g1 g2); first | (go_simp; (fail)) | (simp [go_sem, ↓IntWalk.iteOmega, *]; done) | (simp [go_sem, ↓IntWalk.iteOmega, *]; rfl)))); (go_simp; refine hK _ ?_; clear hK K))
      refine wpQuiet_nil ?_
      intro w1 h1
      have hb1 := h1.below
      clear h1
      have z1 := hb1.size
      have c1 := Below.cells hb1
      have f1 := Below.frozens hb1
      try simp only [World.size_alloc, World.size_setCell, World.size_drew] at z1 c1 f1
      go_wp2_with fail
      go_roundw
      case rel => exact ⟨k + 1, x, by omega, by go_num, rfl, HS.out, by rw [par_succ]; simp, (by repeat (first | (with_reducible exact Below.refl _ _) | ((with_reducible refine Below.alloc ?_ ?_ _); rotate_left; (next => ((try dsimp only); (try simp only [World.size_alloc, World.size_setCell, World.size_drew]); omega))) | ((with_reducible refine Below.setCell ?_ ?_ _); rotate_left; (next => ((try dsimp only); (try simp only [World.size_alloc, World.size_setCell, World.size_drew]); omega))) | (with_reducible refine Below.drew ?_) | ((with_reducible refine Below.trans ?_ (Below.mono hb1 ?_)); rotate_left; (next => ((try dsimp only); (try simp only [World.size_alloc, World.size_setCell, World.size_drew]); omega))) | (with_reducible exact bel)))⟩
      case measure => simp [intOf]; omega
    · obtain rfl : n = k := by omega
      go_wp2_with fail
      go_ret
      exact ⟨rfl, bel⟩

set_option maxHeartbeats 2000000 in
/-- What stands at time t: as many turns c as there were by then. -/
theorem mat_ok (A : Option Addr) (n c0 c : Nat) (l : List Int) (e t : Int) (w : World) (h : MRow w A n l) (hm : n ≤ 64) (hl : Mono l e) (he : e ≤ 1073741824) (ht : 0 ≤ t ∧ t ≤ e) (hc : c ≤ n) (h1 : ∀ j, j < c → l.getD j 0 ≤ t) (h2 : c < n → t < l.getD c 0) :
    Calls Tryz.prog 8 #[.slice A n c0, .int .i64 e, .int .i64 t] w fun x w' => x = .returned (.tuple #[.bool (!par c), .int .i64 0]) ∧ Below w.heap.size w w' := by
  have HC := Lib.hid (mcheck_ok A n c0 l e w h hm hl he)
  have HT := Lib.hid h
  have H1 := Lib.hid h1
  have H2 := Lib.hid h2
  obtain ⟨t0, t1⟩ := ht
  clear h hl h1 h2
  go_enter Tryz.func8, Tryz.ntmps8
  go_wp2_with fail
  refine (HC.out).mono ?_
  rintro e w1 ⟨rfl, hb1⟩
  have z1 := hb1.size
  have c1 := Below.cells hb1
  have f1 := Below.frozens hb1
  try simp only [World.size_alloc, World.size_setCell, World.size_drew] at z1 c1 f1
  go_wp2_with fail
  have bel1 : Below w.heap.size w w1 := (by repeat (first | (with_reducible exact Below.refl _ _) | ((with_reducible refine Below.alloc ?_ ?_ _); rotate_left; (next => ((try dsimp only); (try simp only [World.size_alloc, World.size_setCell, World.size_drew]); omega))) | ((with_reducible refine Below.setCell ?_ ?_ _); rotate_left; (next => ((try dsimp only); (try simp only [World.size_alloc, World.size_setCell, World.size_drew]); omega))) | (with_reducible refine Below.drew ?_) | ((with_reducible refine Below.trans ?_ (Below.mono hb1 ?_)); rotate_left; (next => ((try dsimp only); (try simp only [World.size_alloc, World.size_setCell, World.size_drew]); omega)))))
  have HB1 := Lib.hid bel1
  clear bel1 c1 f1
  go_loopw [9, 27] (fun is i wr => ∃ k : Nat, k ≤ c ∧ i = .int .i64 k ∧ is = .bool (!par k) ∧ Below w.heap.size w wr) (fun _ i _ => n - (intOf i).toNat)
  case atStart => exact ⟨0, Nat.zero_le _, rfl, rfl, HB1.out⟩
  case round =>
    obtain ⟨k, hk, rfl, rfl, bel⟩ := hrel
    have hsz := bel.size
    by_cases hlt : k < n
    · obtain ⟨b, off, rfl, ltA, hc⟩ := HT.out.2 (by omega)
      have g1 := (bel.cell (p := ⟨b, off + k * 2, none⟩) ltA).trans (hc k hlt).1
      have g2 := (bel.cell (p := ⟨b, off + k * 2 + 1, none⟩) ltA).trans (hc k hlt).2
      obtain ⟨x, hx⟩ : ∃ x, l.getD k 0 = x := ⟨_, rfl⟩
      rw [hx] at g1
      by_cases hkc : k < c
      · have hle := H1.out k hkc
        rw [hx] at hle
        have hd : ¬ t < x := by omega
        clear hc hx
        go_wp2_with fail
        go_roundw
        case rel => exact ⟨k + 1, by omega, by go_num, by rw [par_succ]; simp, (by repeat (first | (with_reducible exact Below.refl _ _) | ((with_reducible refine Below.alloc ?_ ?_ _); rotate_left; (next => ((try dsimp only); (try simp only [World.size_alloc, World.size_setCell, World.size_drew]); omega))) | ((with_reducible refine Below.setCell ?_ ?_ _); rotate_left; (next => ((try dsimp only); (try simp only [World.size_alloc, World.size_setCell, World.size_drew]); omega))) | (with_reducible refine Below.drew ?_) | (with_reducible exact bel)))⟩
        case measure => simp [intOf]; omega
      · obtain rfl : k = c := by omega
        have hgt := H2.out hlt
        rw [hx] at hgt
        clear hc hx
        go_wp2_with fail
        go_ret2
        exact ⟨rfl, (by repeat (first | (with_reducible exact Below.refl _ _) | ((with_reducible refine Below.alloc ?_ ?_ _); rotate_left; (next => ((try dsimp only); (try simp only [World.size_alloc, World.size_setCell, World.size_drew]); omega))) | ((with_reducible refine Below.setCell ?_ ?_ _); rotate_left; (next => ((try dsimp only); (try simp only [World.size_alloc, World.size_setCell, World.size_drew]); omega))) | (with_reducible refine Below.drew ?_) | (with_reducible exact bel)))⟩
    · obtain rfl : n = k := by omega
      obtain rfl : n = c := by omega
      go_wp2_with fail
      go_ret2
      exact ⟨rfl, bel⟩
end Go.Proofs.YtpomdnglknbanaaGreat
namespace Go.Proofs.YtpomdnglknbanaaGreat
open Go.RowKit

/-- The cells of turns. -/
def tvs : Nat → List Int → List Value
  | _, [] => []
  | i, t :: r => .int .i64 t :: .bool (par i) :: tvs (i + 1) r
theorem tvs_snoc (t : Int) : ∀ (l : List Int) (i : Nat), tvs i (l ++ [t]) = tvs i l ++ [.int .i64 t, .bool (par (i + l.length))]
  | [], i => by simp [tvs]
  | x :: l, i => by
    simp only [List.cons_append, tvs, tvs_snoc t l (i + 1), List.length_cons]
    rw [show i + 1 + l.length = i + (l.length + 1) by omega]
theorem tvs_len : ∀ (l : List Int) (i : Nat), (tvs i l).length = l.length * 2
  | [], i => rfl
  | x :: l, i => by simp only [tvs, List.length_cons, tvs_len l (i + 1)]; omega
theorem tvs_get : ∀ (l : List Int) (i k : Nat), k < l.length → (tvs i l)[k * 2]? = some (.int .i64 (l.getD k 0)) ∧ (tvs i l)[k * 2 + 1]? = some (.bool (par (i + k)))
  | [], i, k, h => by simp at h
  | x :: l, i, 0, h => by simp [tvs]
  | x :: l, i, k + 1, h => by
    have := tvs_get l (i + 1) k (by simpa using h)
    rw [show (k + 1) * 2 = k * 2 + 2 by omega]
    simp only [tvs, List.getElem?_cons_succ]
    rw [show i + (k + 1) = i + 1 + k by omega]
    exact this
theorem tvs_one : ∀ (l : List Int) (i : Nat), ∀ u ∈ tvs i l, u.oneCell' = true
  | [], i, u, h => by simp [tvs] at h
  | x :: l, i, u, h => by
    simp only [tvs, List.mem_cons] at h
    rcases h with rfl | rfl | h
    · rfl
    · rfl
    · exact tvs_one l (i + 1) u h
theorem MRow.of_own {w : World} {base n c : Nat} {A : Option Addr} {l : List Int} {e : TypeId} (hl : l.length = n) (h : w.ownsRow base e 2 (.slice A n c) n (tvs 0 l)) : MRow w A n l := by
  refine ⟨hl, fun hn => ?_⟩
  obtain ⟨g, cap, hv, _, hlt⟩ := h.form hn
  have hA : A = some ⟨g, 0, none⟩ := by injection hv
  subst hA
  refine ⟨g, 0, rfl, hlt, fun k hk => ?_⟩
  have hg := tvs_get l 0 k (by omega)
  rw [Nat.zero_add] at hg
  have c1 := h.cells (g := g) rfl _ _ hg.1
  have c2 := h.cells (g := g) rfl _ _ hg.2
  rw [Go.WideShapes.add_plain] at c1 c2
  exact ⟨c1, c2⟩

/-- The times. -/
def tms : Int → List Int → List Int
  | _, [] => []
  | s, x :: r => (s + within x 30) :: tms (s + within x 30) r
theorem tms_len : ∀ (l : List Int) (s : Int), (tms s l).length = l.length
  | [], s => rfl
  | x :: l, s => by simp only [tms, List.length_cons, tms_len l]
theorem tms_get : ∀ (l : List Int) (s : Int) (k : Nat), k < l.length → (tms s l).getD k 0 = (if k = 0 then s else (tms s l).getD (k - 1) 0) + within (l.getD k 0) 30
  | [], s, k, h => by simp at h
  | x :: l, s, 0, h => by simp [tms]
  | x :: l, s, k + 1, h => by
    have := tms_get l (s + within x 30) k (by simpa using h)
    simp only [tms, List.getD_cons_succ, Nat.add_sub_cancel]
    rw [this]
    rcases Nat.eq_zero_or_pos k with rfl | hk
    · simp
    · rw [if_neg (by omega), if_neg (by omega)]
      have e : ((s + within x 30) :: tms (s + within x 30) l).getD k 0 = (tms (s + within x 30) l).getD (k - 1) 0 := by
        obtain ⟨j, rfl⟩ : ∃ j, k = j + 1 := ⟨k - 1, by omega⟩
        simp
      rw [e]
theorem turns_pack (l : List Int) : ∃ (ts : List Int) (n : Nat), tms 0 (l.take 64) = ts ∧ ts.length = n ∧ n ≤ 64 ∧ n ≤ l.length ∧ ((l.length : Int) ≤ 64 ∧ n = l.length ∨ ¬ (l.length : Int) ≤ 64 ∧ n = 64) ∧ (∀ k, k < n → ts.getD k 0 = bef ts k + within (l.getD k 0) 30) ∧
    (∀ k, k ≤ n → 0 ≤ bef ts k ∧ bef ts k ≤ 29 * k) := by
  have hl : (tms 0 (l.take 64)).length = min 64 l.length := by rw [tms_len]; simp
  have hg : ∀ k, k < (tms 0 (l.take 64)).length → (tms 0 (l.take 64)).getD k 0 = bef (tms 0 (l.take 64)) k + within (l.getD k 0) 30 := fun k hk => by
    rw [hl] at hk
    rw [tms_get _ _ _ (by simp; omega)]
    unfold bef
    have : (l.take 64).getD k 0 = l.getD k 0 := by simp [List.getD, List.getElem?_take, show k < 64 by omega]
    rw [this]
  refine ⟨_, _, rfl, rfl, by omega, by omega, by omega, hg, fun k => ?_⟩
  induction k with
  | zero => intro _; simp [bef]
  | succ k ih =>
    intro hk
    have a := ih (by omega)
    have b := hg k (by omega)
    have c := within_bd (l.getD k 0) (n := 30) (by omega)
    rw [bef_succ]
    omega
theorem turns_mono {ts : List Int} {n : Nat} {l : List Int} (hn : ts.length = n) (h : ∀ k, k < n → ts.getD k 0 = bef ts k + within (l.getD k 0) 30) {e : Int} (he : bef ts n ≤ e) (h0 : 0 ≤ e) : Mono ts e := by
  refine ⟨h0, fun k hk => ?_⟩
  rw [hn] at hk
  have c := within_bd (l.getD k 0) (n := 30) (by omega)
  refine ⟨by have := h k hk; omega, ?_⟩
  have up : ∀ j, k + 1 + j ≤ n → ts.getD k 0 ≤ bef ts (k + 1 + j) := by
    intro j
    induction j with
    | zero => intro _; rw [Nat.add_zero, bef_succ]; exact Int.le_refl _
    | succ j ih =>
      intro hj
      have a := ih (by omega)
      have b := h (k + 1 + j) (by omega)
      have d := within_bd (l.getD (k + 1 + j) 0) (n := 30) (by omega)
      rw [show k + 1 + (j + 1) = (k + 1 + j) + 1 by omega, bef_succ]
      omega
  have := up (n - (k + 1)) (by omega)
  rw [show k + 1 + (n - (k + 1)) = n by omega] at this
  omega
theorem info_turn : (Tryz.prog.info? 27).map (fun i => (i.zero, i.size, i.bytes)) = some (some (.agg #[.int .i64 0, .bool false]), 2, 16) := by kernel_rfl
theorem tv_cells (w : World) (y : Int) (p : Bool) (T : TypeId) : ∀ j u, [Value.int .i64 y, Value.bool p][j]? = some u → (w.alloc (.cells #[.int .i64 y, .bool p] T)).cell? ((⟨w.heap.size, 0, none⟩ : Addr).add j) = some u := by
  intro j u hj
  match j, hj with
  | 0, hj => simp at hj; subst hj; rw [Go.WideShapes.add_plain, World.cell?_alloc_new]; simp
  | 1, hj => simp at hj; subst hj; rw [Go.WideShapes.add_plain, World.cell?_alloc_new]; simp
theorem tv_one (y : Int) (p : Bool) : ∀ u ∈ [Value.int .i64 y, Value.bool p], u.oneCell' = true := by
  intro u hu; simp at hu; rcases hu with rfl | rfl <;> rfl
/-- Turns that the call made. -/
def InTurns (w : World) (A : Option Addr) (n c : Nat) (l : List Int) : Prop := MRow w A n l ∧ n ≤ c ∧ c ≤ maxLen ∧ (A = none → n = 0 ∧ c = 0)
theorem tmod2 (k : Nat) : ((k : Int) % 2 == 0) = par k := by
  unfold par
  rcases Nat.mod_two_eq_zero_or_one k with h | h
  · have : (k : Int) % 2 = 0 := by omega
    rw [this, h]; rfl
  · have : (k : Int) % 2 = 1 := by omega
    rw [this, h]; rfl

end Go.Proofs.YtpomdnglknbanaaGreat
namespace Go.Proofs.YtpomdnglknbanaaGreat
open Go.RowKit

/-- How long it was suspected, up to the k-th time. -/
def bdS (us : List Int) : Nat → Int
  | 0 => 0
  | k + 1 => bdS us k + if par k then 0 else us.getD k 0 - bef us k
/-- How long it was trusted. -/
def gdS (us : List Int) : Nat → Int
  | 0 => 0
  | k + 1 => gdS us k + if par k then us.getD k 0 - bef us k else 0
theorem bd_gd (us : List Int) (k : Nat) : bdS us k + gdS us k = bef us k := by
  induction k with
  | zero => simp [bdS, gdS, bef]
  | succ k ih => simp only [bdS, gdS, bef_succ]; split <;> omega
theorem bd_nonneg {us : List Int} {e : Int} (h : Mono us e) {k : Nat} (hk : k ≤ us.length) : 0 ≤ bdS us k ∧ 0 ≤ gdS us k := by
  induction k with
  | zero => simp [bdS, gdS]
  | succ k ih =>
    have a := ih (by omega)
    have b := h.2 k (by omega)
    simp only [bdS, gdS]
    split <;> omega
theorem bef_le {us : List Int} {e : Int} (h : Mono us e) {k : Nat} (hk : k ≤ us.length) : 0 ≤ bef us k ∧ bef us k ≤ e := by
  have a := bd_nonneg h hk
  have b := bd_gd us k
  refine ⟨by omega, ?_⟩
  rcases Nat.eq_zero_or_pos k with rfl | h0
  · have := h.1; simpa [bef] using this
  · obtain ⟨j, rfl⟩ : ∃ j, k = j + 1 := ⟨k - 1, by omega⟩
    rw [bef_succ]
    exact (h.2 j (by omega)).2
theorem bef_append (l : List Int) (e : Int) {k : Nat} (hk : k ≤ l.length) : bef (l ++ [e]) k = bef l k := by
  unfold bef
  rcases Nat.eq_zero_or_pos k with rfl | h0
  · rfl
  · rw [if_neg (by omega), if_neg (by omega)]
    simp [List.getD, List.getElem?_append_left (show k - 1 < l.length by omega)]
theorem get_append (l : List Int) (e : Int) {k : Nat} (hk : k < l.length) : (l ++ [e]).getD k 0 = l.getD k 0 := by
  simp [List.getD, List.getElem?_append_left hk]
theorem get_last (l : List Int) (e : Int) : (l ++ [e]).getD l.length 0 = e := by simp [List.getD]
/-- The times, and the end behind them. -/
theorem Mono.append {l : List Int} {e : Int} (h : Mono l e) : Mono (l ++ [e]) e := by
  refine ⟨h.1, fun k hk => ?_⟩
  have hk' : k ≤ l.length := by simp at hk; omega
  rw [bef_append l e hk']
  by_cases c : k < l.length
  · rw [get_append l e c]; exact h.2 k c
  · obtain rfl : k = l.length := by omega
    rw [get_last]
    exact ⟨(bef_le h (Nat.le_refl _)).2, Int.le_refl _⟩
theorem set_blk {w : World} {b : Nat} {cs : Array Value} {T : TypeId} {fz : Nat × Nat} (h : w.heap[b]? = some (.cells cs T fz)) (o : Nat) (v : Value) : (w.setCell ⟨b, o, none⟩ v).heap[b]? = some (.cells (cs.setIfInBounds o v) T fz) := by
  simp [World.setCell, Array.getElem?_modify, h]
theorem blk_lt {w : World} {b : Nat} {o : Obj} (h : w.heap[b]? = some o) : b < w.heap.size := (Array.getElem?_eq_some_iff.1 h).1

theorem MRow.cellsAt {w : World} {ad : Addr} {n : Nat} {l : List Int} (h : MRow w (some ad) n l) : ∀ j u, (tvs 0 l)[j]? = some u → w.cell? (ad.add j) = some u := by
  intro j u hu
  have hj : j < l.length * 2 := by
    have := (List.getElem?_eq_some_iff.1 hu).1
    rwa [tvs_len] at this
  have hl := h.1
  obtain ⟨b, off, e, lt, hc⟩ := h.2 (by omega)
  injection e with e
  subst e
  obtain ⟨k, hk⟩ : ∃ k, k = j / 2 := ⟨_, rfl⟩
  have hg := tvs_get l 0 k (by omega)
  rw [Nat.zero_add] at hg
  have hc := hc k (by omega)
  rw [Go.WideShapes.add_plain]
  rcases Nat.mod_two_eq_zero_or_one j with p | p
  · obtain rfl : j = k * 2 := by omega
    rw [hg.1] at hu; rw [hc.1]; exact hu
  · obtain rfl : j = k * 2 + 1 := by omega
    rw [hg.2] at hu; rw [show off + (k * 2 + 1) = off + k * 2 + 1 by omega, hc.2]; exact hu
theorem heap_new (w : World) (o : Obj) : (w.alloc o).heap[w.heap.size]? = some o := by
  show (w.heap.push o)[w.heap.size]? = some o
  simp

set_option maxRecDepth 100000 in
set_option maxHeartbeats 8000000 in
theorem mof_ok (A : Option Addr) (n c : Nat) (l : List Int) (e : Int) (w : World) (h : InTurns w A n c l) (hm : n ≤ 64) (hl : Mono l e) (he : e ≤ 1073741824) :
    Calls Tryz.prog 7 #[.slice A n c, .int .i64 e] w fun x w' => x = .returned (.tuple #[.agg #[.int .i64 ((n + 1) / 2 : Nat), .int .i64 (bdS (l ++ [e]) (n + 1)), .int .i64 (gdS (l ++ [e]) (n + 1))], .int .i64 0]) ∧ Below w.heap.size w w' := by
  obtain ⟨ht, hc, hcm, hnil⟩ := h
  have hlen := ht.1
  obtain ⟨us, hus⟩ : ∃ us, l ++ [e] = us := ⟨_, rfl⟩
  have hmo : Mono us e := by rw [← hus]; exact hl.append
  have hul : us.length = n + 1 := by rw [← hus]; simp [hlen]
  have hug : ∀ k, k < n → us.getD k 0 = l.getD k 0 := fun k hk => by rw [← hus]; exact get_append l e (by omega)
  have hue : us.getD n 0 = e := by rw [← hus, ← hlen]; exact get_last l e
  rw [hus]
  have HC := Lib.hid (fun w' (h : MRow w' A n l) => mcheck_ok A n c l e w' h hm hl he)
  have HT := Lib.hid ht
  have HMO := Lib.hid hmo
  have HUL := Lib.hid hul
  have HUG := Lib.hid hug
  have HUE := Lib.hid hue
  have HLen := Lib.hid hlen
  obtain ⟨i0, hi, hz0, hz1, hz2⟩ := info_parts info_turn
  have qa := alloc_cells
  have qf := alloc_frozens
  have e0 := hl.1
  clear ht hus hmo hul hug hue hlen hl
  have hrow : ∀ w', Below w.heap.size w w' → MRow w' A n l := fun w' h => HT.out.below h
  rcases A with _ | ad
  · obtain ⟨rfl, rfl⟩ := hnil rfl
    have hl0 : l = [] := List.eq_nil_of_length_eq_zero HLen.out
    subst hl0
    go_enter Tryz.func7, Tryz.ntmps7
    go_wp2_with fail
    refine (HC.out _ (HT.out.below (by repeat (first | (with_reducible exact Below.refl _ _) | ((with_reducible refine Below.alloc ?_ ?_ _); rotate_left; (next => ((try dsimp only); (try simp only [World.size_alloc, World.size_setCell, World.size_drew]); omega))) | ((with_reducible refine Below.setCell ?_ ?_ _); rotate_left; (next => ((try dsimp only); (try simp only [World.size_alloc, World.size_setCell, World.size_drew]); omega))) | (with_reducible refine Below.drew ?_) | (refine Below.trans ?_ (by assumption)))))).mono ?_
    rintro x w1 ⟨rfl, hb1⟩
    have own0 : (w1.alloc (.cells #[.int .i64 0, .int .i64 0, .int .i64 0] 29)).ownsRow (w1.heap.size + 1) 27 2 (.slice none 0 0) 0 [] := World.ownsRow_nil _ _ _ _
    have hml : 0 + 1 ≤ maxLen := by decide
    have hmb : (0 + 1) * 16 ≤ 140737488355328 := by omega
    have hcl := tv_cells (w1.alloc (.cells #[.int .i64 0, .int .i64 0, .int .i64 0] 29)) e false 27
    rw [World.size_alloc] at hcl
    have HCL := Lib.hid hcl
    clear hcl
    have HML := Lib.hid hml
    have HMB := Lib.hid hmb
    clear hml hmb
    go_wp2_with (at_builtin; (refine wpList_append_own _ rfl _ _ 23 rfl (w1.heap.size + 1) 27 i0 _ 2 16 Tryz.underlying23 hi hz0 hz1 hz2 rfl (by decide) _ _ _ rfl (World.ownsRow.alloc own0 _) ⟨w1.heap.size + 1, 0, none⟩ 1 1 [.int .i64 e, .bool false] rfl rfl HCL.out (tv_one _ _) HML.out HMB.out (by simp) ?_))
    intro v3 w3 own3 gr3 _
    have own4 : w3.ownsRow (w1.heap.size + 1) 27 2 v3 (0 + 1) (tvs 0 [] ++ [.int .i64 e, .bool false]) := by simpa [tvs] using own3
    have r1 := (hb1.block _ (by simp)).trans (heap_new w (.cells #[.int .i64 0, .int .i64 0, .int .i64 0] 29))
    have sz := hb1.size
    simp only [World.size_alloc] at sz
    have r3 : w3.heap[w.heap.size]? = some (.cells #[.int .i64 0, .int .i64 0, .int .i64 0] 29) := by
      rw [gr3.block _ (by simp; omega) (by simp [Value.ownBlock]), Below.heap_alloc _ _ _ (by simp; omega), Below.heap_alloc _ _ _ (by omega)]; exact r1
    have m3 : w3.heap[w1.heap.size]? = some (.cells #[.int .i64 0, .int .i64 0, .int .i64 0] 29) := by
      rw [gr3.block _ (by simp; omega) (by simp [Value.ownBlock]), Below.heap_alloc _ _ _ (by simp)]; exact heap_new _ _
    have b3 : Below w.heap.size w w3 := by
      have b1 : Below w.heap.size w w1 := ((Below.refl _ _).alloc (Nat.le_refl _) _).trans (hb1.mono (by simp))
      exact ((b1.alloc (by omega) _).alloc (by simp; omega) _).grown gr3 (by simp; omega) (fun g hg => by simp [Value.ownBlock] at hg)
    obtain ⟨g, cap, rfl, hgB, hgl⟩ := own4.form (by omega)
    have hcells := own4.cells (g := g) rfl
    obtain ⟨mb, hmb⟩ : ∃ mb, w1.heap.size = mb := ⟨_, rfl⟩
    obtain ⟨rb, hrb⟩ : ∃ rb, w.heap.size = rb := ⟨_, rfl⟩
    have hrow : ∀ k, k < 0 + 1 → w3.cell? ⟨g, k * 2, none⟩ = some (.int .i64 (us.getD k 0)) ∧ w3.cell? ⟨g, k * 2 + 1, none⟩ = some (.bool (if k < 0 then par k else false)) := fun k hk => by
      by_cases c : k < 0
      · have hg := tvs_get ([] : List Int) 0 k (by have := HLen.out; omega)
        have ll : (tvs 0 ([] : List Int)).length = 0 * 2 := by rw [tvs_len, HLen.out]
        have c1 := hcells (k * 2) _ (by rw [List.getElem?_append_left (by omega)]; exact hg.1)
        have c2 := hcells (k * 2 + 1) _ (by rw [List.getElem?_append_left (by omega)]; exact hg.2)
        rw [Go.WideShapes.add_plain, Nat.zero_add] at c1 c2
        rw [if_pos c, HUG.out k c]
        rw [Nat.zero_add] at c2
        exact ⟨c1, c2⟩
      · obtain rfl : 0 = k := by omega
        have ll : (tvs 0 ([] : List Int)).length = 0 * 2 := by rw [tvs_len, HLen.out]
        have c1 := hcells (0 * 2) (.int .i64 e) (by rw [List.getElem?_append_right (by omega), ll, Nat.sub_self]; rfl)
        have c2 := hcells (0 * 2 + 1) (.bool false) (by rw [List.getElem?_append_right (by omega), ll, show 0 * 2 + 1 - 0 * 2 = 1 by omega]; rfl)
        rw [Go.WideShapes.add_plain, Nat.zero_add] at c1 c2
        rw [if_neg c, HUE.out]
        exact ⟨c1, c2⟩
    rw [hmb] at m3 hgB
    rw [hrb] at r3
    have HRow := Lib.hid hrow
    have HR3 := Lib.hid r3
    have HM3 := Lib.hid m3
    have HB3 := Lib.hid b3
    have hgm : mb < g := by omega
    have hml2 := blk_lt m3
    have hrl := blk_lt r3
    have hrm : rb < mb := by omega
    clear hrow r3 m3 b3 hcells own4 qa qf
    simp only [hmb, hrb]
    go_wp2_with fail
    go_loopw [8, 9, 26] (fun la is i wr => ∃ (k T : Nat) (B G L : Int) (s : Bool), k ≤ 0 + 1 ∧ i = .int .i64 k ∧ la = .int .i64 L ∧ is = .bool s ∧ bef us k = L ∧ (k ≤ 0 → s = !par k) ∧ bdS us k = B ∧ gdS us k = G ∧ T = (min k 0 + 1) / 2 ∧
        wr.heap[mb]? = some (.cells #[.int .i64 T, .int .i64 B, .int .i64 G] 29) ∧ wr.heap[rb]? = some (.cells #[.int .i64 0, .int .i64 0, .int .i64 0] 29) ∧ wr.heap[g]? = w3.heap[g]? ∧ Below w.heap.size w wr ∧ w3.heap.size ≤ wr.heap.size) (fun _ _ i _ => 0 + 1 - (intOf i).toNat)
    case atStart => exact ⟨0, 0, 0, 0, 0, false, by omega, rfl, rfl, rfl, rfl, fun _ => rfl, rfl, rfl, by simp, HM3.out, HR3.out, rfl, HB3.out, Nat.le_refl _⟩
    case round =>
      obtain ⟨k, T, B, G, L, s, hk, rfl, rfl, rfl, hL, hs, hB, hG, hT, hM, hR, hg, bel, hsz⟩ := hrel
      have bb := bd_nonneg HMO.out (k := k) (by rw [HUL.out]; exact hk)
      have bl := bef_le HMO.out (k := k) (by rw [HUL.out]; exact hk)
      have bg := bd_gd us k
      rw [hB, hG] at bb bg
      rw [hL] at bl bg
      obtain ⟨d1, e1⟩ := block_cells hM
      obtain ⟨d2, e2⟩ := block_cells hR
      have hml3 := blk_lt hM
      by_cases hlt : k < 0 + 1
      · have hmo := HMO.out.2 k (by rw [HUL.out]; exact hlt)
        have hrw := HRow.out k hlt
        have x1 := (World.cell?_of_block (w := w3) (w' := wr) (a := ⟨g, k * 2, none⟩) hg).trans hrw.1
        have x2 := (World.cell?_of_block (w := w3) (w' := wr) (a := ⟨g, k * 2 + 1, none⟩) hg).trans hrw.2
        have hbs := bef_succ us k
        have hbk : bdS us (k + 1) = bdS us k + if par k then 0 else us.getD k 0 - bef us k := rfl
        have hgk : gdS us (k + 1) = gdS us k + if par k then us.getD k 0 - bef us k else 0 := rfl
        rw [hB, hL] at hbk
        rw [hG, hL] at hgk
        rw [hL] at hmo
        obtain ⟨x, hx⟩ : ∃ x, us.getD k 0 = x := ⟨_, rfl⟩
        rw [hx] at hmo x1 hbs hbk hgk
        obtain ⟨y1, y2⟩ := hmo
        have HBS := Lib.hid hbs
        have HMM := Lib.hid hM
        have HRR := Lib.hid hR
        have HGG := Lib.hid hg
        have HS := Lib.hid hs
        have HTT := Lib.hid hT
        have tbd : T ≤ 64 := by omega
        clear hT hrw hbs hx hL hB hG hM hR hg hs
        by_cases hkn : k < 0
        · exact absurd hkn (by omega)
        · rw [if_neg hkn] at x2
          obtain rfl : s = !par k := HS.out (by omega)
          rcases hp : par k with _ | _
          · have tk : k % 2 = 1 := by unfold par at hp; simp at hp; omega
            exact absurd tk (by omega)
          · have tk : k % 2 = 0 := by unfold par at hp; simpa using hp
            rw [hp] at hbk hgk
            simp only [Bool.not_true, if_true, Int.add_zero] at hbk hgk ⊢
            go_wp2_with fail
            refine wp_region_quiet_all (Ext _) (by kernel_rfl) (by kernel_rfl) (Ext.drawn _) ?_
            repeat (first | go_big_quiet_skip | go_big_quiet_step (fail) | (refine BigFrame.wpQuiet_want rfl (fun K hK => ?_); apply Exists.intro; refine ⟨fun w2 h2 => ?_, ?_⟩; (next => (have g1 := Below.cells h2.below; have g2 := Below.frozens h2.below; (try simp only [World.size_alloc, World.size_setCell] at g1 g2); first | (go_simp; (fail)) | (simp [go_sem, ↓IntWalk.iteOmega, *]; done) | (simp [go_sem, ↓IntWalk.iteOmega, *]; rfl)))); (go_simp; refine hK _ ?_; clear hK K))
            refine wpQuiet_nil ?_
            intro w5 h5
            have hb5 := h5.below
            clear h5
            have q5 := hb5.size
            simp only [World.size_alloc, World.size_setCell] at q5
            have M5 : w5.heap[mb]? = some (.cells #[.int .i64 T, .int .i64 (B), .int .i64 (G + (x - L))] 29) := by
              rw [hb5.block mb (by simp; omega), Below.heap_alloc _ _ _ (by simp; omega), set_blk HMM.out]; rfl
            have R5 : w5.heap[rb]? = some (.cells #[.int .i64 0, .int .i64 0, .int .i64 0] 29) := by
              rw [hb5.block rb (by simp; omega), Below.heap_alloc _ _ _ (by simp; omega), Below.heap_setCell _ _ _ _ (by simp; omega)]; exact HRR.out
            have G5 : w5.heap[g]? = w3.heap[g]? := by
              rw [hb5.block g (by simp; omega), Below.heap_alloc _ _ _ (by simp; omega), Below.heap_setCell _ _ _ _ (by simp; omega)]; exact HGG.out
            have B5 : Below w.heap.size w w5 := ((bel.setCell (by simp; omega) _).alloc (by simp; omega) _).trans (hb5.mono (by simp; omega))
            have HM5 := Lib.hid M5
            obtain ⟨d5, e5⟩ := block_cells M5
            clear hb5 M5
            go_wp2_with fail
            go_roundw
            case rel => first | exact ⟨k + 1, T, B, G + (x - L), x, false, by omega, by go_num, rfl, rfl, HBS.out, fun _ => by first | (rw [par_succ, hp]; rfl) | omega, hbk, hgk, by have := HTT.out; omega, HM5.out, R5, G5, B5, by omega⟩ | ((repeat apply Exists.intro); exact ⟨⟨k + 1, T, B, G + (x - L), x, false, by omega, by go_num, rfl, rfl, HBS.out, fun _ => by first | (rw [par_succ, hp]; rfl) | omega, hbk, hgk, by have := HTT.out; omega, HM5.out, R5, G5, B5, by omega⟩, rfl⟩)
            case measure => simp [intOf]; omega
      · obtain rfl : k = 0 + 1 := by omega
        have HMM := Lib.hid hM
        obtain rfl : T = (0 + 1) / 2 := by omega
        clear hM hR hg hs hL
        go_wp2_with fail
        refine bodyPost_ret (v := .tuple #[.agg #[.int .i64 ((0 + 1) / 2 : Nat), .int .i64 (bdS us (0 + 1)), .int .i64 (gdS us (0 + 1))], .int .i64 0]) (by simp [results, Tryz.results7, go_sem, ↓IntWalk.iteOmega, *]) rfl ?_
        exact ⟨rfl, (by repeat (first | (with_reducible exact Below.refl _ _) | ((with_reducible refine Below.alloc ?_ ?_ _); rotate_left; (next => ((try dsimp only); (try simp only [World.size_alloc, World.size_setCell, World.size_drew]); omega))) | ((with_reducible refine Below.setCell ?_ ?_ _); rotate_left; (next => ((try dsimp only); (try simp only [World.size_alloc, World.size_setCell, World.size_drew]); omega))) | (with_reducible refine Below.drew ?_) | (with_reducible exact bel)))⟩
  · have hcm2 := hcm
    unfold maxLen at hcm2
    go_enter Tryz.func7, Tryz.ntmps7
    go_wp2_with fail
    refine (HC.out _ (HT.out.below (by repeat (first | (with_reducible exact Below.refl _ _) | ((with_reducible refine Below.alloc ?_ ?_ _); rotate_left; (next => ((try dsimp only); (try simp only [World.size_alloc, World.size_setCell, World.size_drew]); omega))) | ((with_reducible refine Below.setCell ?_ ?_ _); rotate_left; (next => ((try dsimp only); (try simp only [World.size_alloc, World.size_setCell, World.size_drew]); omega))) | (with_reducible refine Below.drew ?_) | (refine Below.trans ?_ (by assumption)))))).mono ?_
    rintro x w1 ⟨rfl, hb1⟩
    have sz := hb1.size
    simp only [World.size_alloc] at sz
    have b1 : Below w.heap.size w w1 := ((Below.refl _ _).alloc (Nat.le_refl _) _).trans (hb1.mono (by simp))
    have hT2 : MRow (w1.alloc (.cells #[.int .i64 0, .int .i64 0, .int .i64 0] 29)) (some ad) n l := HT.out.below (b1.alloc (by omega) _)
    have own0 : (w1.alloc (.cells #[.int .i64 0, .int .i64 0, .int .i64 0] 29)).ownsRow (w1.heap.size + 1) 27 2 (.slice none 0 0) 0 [] := World.ownsRow_nil _ _ _ _
    have HT2 := Lib.hid hT2.cellsAt
    have HTL := Lib.hid (show (tvs 0 l).length = n * 2 by rw [tvs_len, HLen.out])
    clear hT2
    go_wp2_with (at_builtin; (refine wpList_append_own _ rfl _ _ 23 rfl (w1.heap.size + 1) 27 i0 _ 2 16 Tryz.underlying23 hi hz0 hz1 hz2 rfl (by decide) _ _ _ rfl own0 ad n c (tvs 0 l) rfl HTL.out HT2.out (tvs_one l 0) (by unfold maxLen; omega) (by omega) (by simp) ?_))
    intro v2 w2 own2 gr2 _
    have own2' : w2.ownsRow (w1.heap.size + 1) 27 2 v2 n (tvs 0 l) := by simpa using own2
    have s2 := gr2.size
    simp only [World.size_alloc] at s2
    go_wp2_with (at_builtin; (refine wpList_append_own _ rfl _ _ 23 rfl (w1.heap.size + 1) 27 i0 _ 2 16 Tryz.underlying23 hi hz0 hz1 hz2 rfl (by decide) _ _ _ rfl (World.ownsRow.alloc own2' _) ⟨w2.heap.size, 0, none⟩ 1 1 [.int .i64 e, .bool false] rfl rfl (tv_cells _ _ _ _) (tv_one _ _) (by unfold maxLen; omega) (by omega) (by simp; omega) ?_))
    intro v3 w3 own3 gr3 _
    have own4 : w3.ownsRow (w1.heap.size + 1) 27 2 v3 (n + 1) (tvs 0 l ++ [.int .i64 e, .bool false]) := own3
    have r1 := (hb1.block _ (by simp)).trans (heap_new w (.cells #[.int .i64 0, .int .i64 0, .int .i64 0] 29))
    have hlo := own2'.lt
    have r3 : w3.heap[w.heap.size]? = some (.cells #[.int .i64 0, .int .i64 0, .int .i64 0] 29) := by
      rw [gr3.block _ (by simp; omega) (fun h => by have := hlo _ h.symm; omega), Below.heap_alloc _ _ _ (by omega), gr2.block _ (by simp; omega) (by simp [Value.ownBlock]), Below.heap_alloc _ _ _ (by omega)]; exact r1
    have m3 : w3.heap[w1.heap.size]? = some (.cells #[.int .i64 0, .int .i64 0, .int .i64 0] 29) := by
      rw [gr3.block _ (by simp; omega) (fun h => by have := hlo _ h.symm; omega), Below.heap_alloc _ _ _ (by omega), gr2.block _ (by simp) (by simp [Value.ownBlock])]; exact heap_new _ _
    have b3 : Below w.heap.size w w3 :=
      (((b1.alloc (by omega) _).grown gr2 (by simp; omega) (fun g hg => by simp [Value.ownBlock] at hg)).alloc (by omega) _).grown gr3 (by simp; omega) (fun g hg => by have := hlo _ hg; omega)
    clear own3 own2 own2' own0 gr2 gr3 hlo r1 b1 hb1
    obtain ⟨g, cap, rfl, hgB, hgl⟩ := own4.form (by omega)
    have hcells := own4.cells (g := g) rfl
    obtain ⟨mb, hmb⟩ : ∃ mb, w1.heap.size = mb := ⟨_, rfl⟩
    obtain ⟨rb, hrb⟩ : ∃ rb, w.heap.size = rb := ⟨_, rfl⟩
    have hrow : ∀ k, k < n + 1 → w3.cell? ⟨g, k * 2, none⟩ = some (.int .i64 (us.getD k 0)) ∧ w3.cell? ⟨g, k * 2 + 1, none⟩ = some (.bool (if k < n then par k else false)) := fun k hk => by
      by_cases c : k < n
      · have hg := tvs_get l 0 k (by have := HLen.out; omega)
        have ll : (tvs 0 l).length = n * 2 := by rw [tvs_len, HLen.out]
        have c1 := hcells (k * 2) _ (by rw [List.getElem?_append_left (by omega)]; exact hg.1)
        have c2 := hcells (k * 2 + 1) _ (by rw [List.getElem?_append_left (by omega)]; exact hg.2)
        rw [Go.WideShapes.add_plain, Nat.zero_add] at c1 c2
        rw [if_pos c, HUG.out k c]
        rw [Nat.zero_add] at c2
        exact ⟨c1, c2⟩
      · obtain rfl : n = k := by omega
        have ll : (tvs 0 l).length = n * 2 := by rw [tvs_len, HLen.out]
        have c1 := hcells (n * 2) (.int .i64 e) (by rw [List.getElem?_append_right (by omega), ll, Nat.sub_self]; rfl)
        have c2 := hcells (n * 2 + 1) (.bool false) (by rw [List.getElem?_append_right (by omega), ll, show n * 2 + 1 - n * 2 = 1 by omega]; rfl)
        rw [Go.WideShapes.add_plain, Nat.zero_add] at c1 c2
        rw [if_neg c, HUE.out]
        exact ⟨c1, c2⟩
    rw [hmb] at m3 hgB
    rw [hrb] at r3
    have HRow := Lib.hid hrow
    have HR3 := Lib.hid r3
    have HM3 := Lib.hid m3
    have HB3 := Lib.hid b3
    have hgm : mb < g := by omega
    have hml2 := blk_lt m3
    have hrl := blk_lt r3
    have hrm : rb < mb := by omega
    clear hrow r3 m3 b3 hcells own4 qa qf
    simp only [hmb, hrb]
    go_wp2_with fail
    go_loopw [8, 9, 26] (fun la is i wr => ∃ (k T : Nat) (B G L : Int) (s : Bool), k ≤ n + 1 ∧ i = .int .i64 k ∧ la = .int .i64 L ∧ is = .bool s ∧ bef us k = L ∧ (k ≤ n → s = !par k) ∧ bdS us k = B ∧ gdS us k = G ∧ T = (min k n + 1) / 2 ∧
        wr.heap[mb]? = some (.cells #[.int .i64 T, .int .i64 B, .int .i64 G] 29) ∧ wr.heap[rb]? = some (.cells #[.int .i64 0, .int .i64 0, .int .i64 0] 29) ∧ wr.heap[g]? = w3.heap[g]? ∧ Below w.heap.size w wr ∧ w3.heap.size ≤ wr.heap.size) (fun _ _ i _ => n + 1 - (intOf i).toNat)
    case atStart => exact ⟨0, 0, 0, 0, 0, false, by omega, rfl, rfl, rfl, rfl, fun _ => rfl, rfl, rfl, by simp, HM3.out, HR3.out, rfl, HB3.out, Nat.le_refl _⟩
    case round =>
      obtain ⟨k, T, B, G, L, s, hk, rfl, rfl, rfl, hL, hs, hB, hG, hT, hM, hR, hg, bel, hsz⟩ := hrel
      have bb := bd_nonneg HMO.out (k := k) (by rw [HUL.out]; exact hk)
      have bl := bef_le HMO.out (k := k) (by rw [HUL.out]; exact hk)
      have bg := bd_gd us k
      rw [hB, hG] at bb bg
      rw [hL] at bl bg
      obtain ⟨d1, e1⟩ := block_cells hM
      obtain ⟨d2, e2⟩ := block_cells hR
      have hml3 := blk_lt hM
      by_cases hlt : k < n + 1
      · have hmo := HMO.out.2 k (by rw [HUL.out]; exact hlt)
        have hrw := HRow.out k hlt
        have x1 := (World.cell?_of_block (w := w3) (w' := wr) (a := ⟨g, k * 2, none⟩) hg).trans hrw.1
        have x2 := (World.cell?_of_block (w := w3) (w' := wr) (a := ⟨g, k * 2 + 1, none⟩) hg).trans hrw.2
        have hbs := bef_succ us k
        have hbk : bdS us (k + 1) = bdS us k + if par k then 0 else us.getD k 0 - bef us k := rfl
        have hgk : gdS us (k + 1) = gdS us k + if par k then us.getD k 0 - bef us k else 0 := rfl
        rw [hB, hL] at hbk
        rw [hG, hL] at hgk
        rw [hL] at hmo
        obtain ⟨x, hx⟩ : ∃ x, us.getD k 0 = x := ⟨_, rfl⟩
        rw [hx] at hmo x1 hbs hbk hgk
        obtain ⟨y1, y2⟩ := hmo
        have HBS := Lib.hid hbs
        have HMM := Lib.hid hM
        have HRR := Lib.hid hR
        have HGG := Lib.hid hg
        have HS := Lib.hid hs
        have HTT := Lib.hid hT
        have tbd : T ≤ 64 := by omega
        clear hT hrw hbs hx hL hB hG hM hR hg hs
        by_cases hkn : k < n
        · rw [if_pos hkn] at x2
          obtain rfl : s = !par k := HS.out (by omega)
          rcases hp : par k with _ | _
          · have tk : k % 2 = 1 := by unfold par at hp; simp at hp; omega
            rw [hp] at x2 hbk hgk
            simp only [Bool.not_false, Bool.false_eq_true, if_false, Int.add_zero] at hbk hgk ⊢
            go_wp2_with fail
            refine wp_region_quiet_all (Ext _) (by kernel_rfl) (by kernel_rfl) (Ext.drawn _) ?_
            repeat (first | go_big_quiet_skip | go_big_quiet_step (fail) | (refine BigFrame.wpQuiet_want rfl (fun K hK => ?_); apply Exists.intro; refine ⟨fun w2 h2 => ?_, ?_⟩; (next => (have g1 := Below.cells h2.below; have g2 := Below.frozens h2.below; (try simp only [World.size_alloc, World.size_setCell] at g1 g2); first | (go_simp; (fail)) | (simp [go_sem, ↓IntWalk.iteOmega, *]; done) | (simp [go_sem, ↓IntWalk.iteOmega, *]; rfl)))); (go_simp; refine hK _ ?_; clear hK K))
            refine wpQuiet_nil ?_
            intro w5 h5
            have hb5 := h5.below
            clear h5
            have q5 := hb5.size
            simp only [World.size_alloc, World.size_setCell] at q5
            have M5 : w5.heap[mb]? = some (.cells #[.int .i64 T, .int .i64 (B + (x - L)), .int .i64 (G)] 29) := by
              rw [hb5.block mb (by simp; omega), Below.heap_alloc _ _ _ (by simp; omega), set_blk HMM.out]; rfl
            have R5 : w5.heap[rb]? = some (.cells #[.int .i64 0, .int .i64 0, .int .i64 0] 29) := by
              rw [hb5.block rb (by simp; omega), Below.heap_alloc _ _ _ (by simp; omega), Below.heap_setCell _ _ _ _ (by simp; omega)]; exact HRR.out
            have G5 : w5.heap[g]? = w3.heap[g]? := by
              rw [hb5.block g (by simp; omega), Below.heap_alloc _ _ _ (by simp; omega), Below.heap_setCell _ _ _ _ (by simp; omega)]; exact HGG.out
            have B5 : Below w.heap.size w w5 := ((bel.setCell (by simp; omega) _).alloc (by simp; omega) _).trans (hb5.mono (by simp; omega))
            have HM5 := Lib.hid M5
            obtain ⟨d5, e5⟩ := block_cells M5
            clear hb5 M5
            go_wp2_with fail
            go_roundw
            case rel => first | exact ⟨k + 1, T, B + (x - L), G, x, false, by omega, by go_num, rfl, rfl, HBS.out, fun _ => by first | (rw [par_succ, hp]; rfl) | omega, hbk, hgk, by have := HTT.out; omega, HM5.out, R5, G5, B5, by omega⟩ | ((repeat apply Exists.intro); exact ⟨⟨k + 1, T, B + (x - L), G, x, false, by omega, by go_num, rfl, rfl, HBS.out, fun _ => by first | (rw [par_succ, hp]; rfl) | omega, hbk, hgk, by have := HTT.out; omega, HM5.out, R5, G5, B5, by omega⟩, rfl⟩)
            case measure => simp [intOf]; omega
          · have tk : k % 2 = 0 := by unfold par at hp; simpa using hp
            rw [hp] at x2 hbk hgk
            simp only [Bool.not_true, if_true, Int.add_zero] at hbk hgk ⊢
            go_wp2_with fail
            refine wp_region_quiet_all (Ext _) (by kernel_rfl) (by kernel_rfl) (Ext.drawn _) ?_
            repeat (first | go_big_quiet_skip | go_big_quiet_step (fail) | (refine BigFrame.wpQuiet_want rfl (fun K hK => ?_); apply Exists.intro; refine ⟨fun w2 h2 => ?_, ?_⟩; (next => (have g1 := Below.cells h2.below; have g2 := Below.frozens h2.below; (try simp only [World.size_alloc, World.size_setCell] at g1 g2); first | (go_simp; (fail)) | (simp [go_sem, ↓IntWalk.iteOmega, *]; done) | (simp [go_sem, ↓IntWalk.iteOmega, *]; rfl)))); (go_simp; refine hK _ ?_; clear hK K))
            refine wpQuiet_nil ?_
            intro w5 h5
            have hb5 := h5.below
            clear h5
            have q5 := hb5.size
            simp only [World.size_alloc, World.size_setCell] at q5
            have M5 : w5.heap[mb]? = some (.cells #[.int .i64 T, .int .i64 (B), .int .i64 (G + (x - L))] 29) := by
              rw [hb5.block mb (by simp; omega), Below.heap_alloc _ _ _ (by simp; omega), set_blk HMM.out]; rfl
            have R5 : w5.heap[rb]? = some (.cells #[.int .i64 0, .int .i64 0, .int .i64 0] 29) := by
              rw [hb5.block rb (by simp; omega), Below.heap_alloc _ _ _ (by simp; omega), Below.heap_setCell _ _ _ _ (by simp; omega)]; exact HRR.out
            have G5 : w5.heap[g]? = w3.heap[g]? := by
              rw [hb5.block g (by simp; omega), Below.heap_alloc _ _ _ (by simp; omega), Below.heap_setCell _ _ _ _ (by simp; omega)]; exact HGG.out
            have B5 : Below w.heap.size w w5 := ((bel.setCell (by simp; omega) _).alloc (by simp; omega) _).trans (hb5.mono (by simp; omega))
            have HM5 := Lib.hid M5
            obtain ⟨d5, e5⟩ := block_cells M5
            clear hb5 M5
            go_wp2_with fail
            go_roundw
            case rel => exact ⟨k + 1, T + 1, B, G + (x - L), x, true, by omega, by go_num, rfl, rfl, HBS.out, fun _ => by rw [par_succ, hp]; rfl, hbk, hgk, by have := HTT.out; omega, (set_blk HM5.out 0 _).trans (by rw [Int.natCast_add]; rfl), (Below.heap_setCell _ _ _ _ (by simp; omega)).trans R5, (Below.heap_setCell _ _ _ _ (by simp; omega)).trans G5, B5.setCell (by simp; omega) _, by simp; omega⟩
            case measure => simp [intOf]; omega
        · rw [if_neg hkn] at x2
          obtain rfl : s = !par k := HS.out (by omega)
          rcases hp : par k with _ | _
          · have tk : k % 2 = 1 := by unfold par at hp; simp at hp; omega
            rw [hp] at hbk hgk
            simp only [Bool.not_false, Bool.false_eq_true, if_false, Int.add_zero] at hbk hgk ⊢
            go_wp2_with fail
            refine wp_region_quiet_all (Ext _) (by kernel_rfl) (by kernel_rfl) (Ext.drawn _) ?_
            repeat (first | go_big_quiet_skip | go_big_quiet_step (fail) | (refine BigFrame.wpQuiet_want rfl (fun K hK => ?_); apply Exists.intro; refine ⟨fun w2 h2 => ?_, ?_⟩; (next => (have g1 := Below.cells h2.below; have g2 := Below.frozens h2.below; (try simp only [World.size_alloc, World.size_setCell] at g1 g2); first | (go_simp; (fail)) | (simp [go_sem, ↓IntWalk.iteOmega, *]; done) | (simp [go_sem, ↓IntWalk.iteOmega, *]; rfl)))); (go_simp; refine hK _ ?_; clear hK K))
            refine wpQuiet_nil ?_
            intro w5 h5
            have hb5 := h5.below
            clear h5
            have q5 := hb5.size
            simp only [World.size_alloc, World.size_setCell] at q5
            have M5 : w5.heap[mb]? = some (.cells #[.int .i64 T, .int .i64 (B + (x - L)), .int .i64 (G)] 29) := by
              rw [hb5.block mb (by simp; omega), Below.heap_alloc _ _ _ (by simp; omega), set_blk HMM.out]; rfl
            have R5 : w5.heap[rb]? = some (.cells #[.int .i64 0, .int .i64 0, .int .i64 0] 29) := by
              rw [hb5.block rb (by simp; omega), Below.heap_alloc _ _ _ (by simp; omega), Below.heap_setCell _ _ _ _ (by simp; omega)]; exact HRR.out
            have G5 : w5.heap[g]? = w3.heap[g]? := by
              rw [hb5.block g (by simp; omega), Below.heap_alloc _ _ _ (by simp; omega), Below.heap_setCell _ _ _ _ (by simp; omega)]; exact HGG.out
            have B5 : Below w.heap.size w w5 := ((bel.setCell (by simp; omega) _).alloc (by simp; omega) _).trans (hb5.mono (by simp; omega))
            have HM5 := Lib.hid M5
            obtain ⟨d5, e5⟩ := block_cells M5
            clear hb5 M5
            go_wp2_with fail
            go_roundw
            case rel => first | exact ⟨k + 1, T, B + (x - L), G, x, false, by omega, by go_num, rfl, rfl, HBS.out, fun _ => by first | (rw [par_succ, hp]; rfl) | omega, hbk, hgk, by have := HTT.out; omega, HM5.out, R5, G5, B5, by omega⟩ | ((repeat apply Exists.intro); exact ⟨⟨k + 1, T, B + (x - L), G, x, false, by omega, by go_num, rfl, rfl, HBS.out, fun _ => by first | (rw [par_succ, hp]; rfl) | omega, hbk, hgk, by have := HTT.out; omega, HM5.out, R5, G5, B5, by omega⟩, rfl⟩)
            case measure => simp [intOf]; omega
          · have tk : k % 2 = 0 := by unfold par at hp; simpa using hp
            rw [hp] at hbk hgk
            simp only [Bool.not_true, if_true, Int.add_zero] at hbk hgk ⊢
            go_wp2_with fail
            refine wp_region_quiet_all (Ext _) (by kernel_rfl) (by kernel_rfl) (Ext.drawn _) ?_
            repeat (first | go_big_quiet_skip | go_big_quiet_step (fail) | (refine BigFrame.wpQuiet_want rfl (fun K hK => ?_); apply Exists.intro; refine ⟨fun w2 h2 => ?_, ?_⟩; (next => (have g1 := Below.cells h2.below; have g2 := Below.frozens h2.below; (try simp only [World.size_alloc, World.size_setCell] at g1 g2); first | (go_simp; (fail)) | (simp [go_sem, ↓IntWalk.iteOmega, *]; done) | (simp [go_sem, ↓IntWalk.iteOmega, *]; rfl)))); (go_simp; refine hK _ ?_; clear hK K))
            refine wpQuiet_nil ?_
            intro w5 h5
            have hb5 := h5.below
            clear h5
            have q5 := hb5.size
            simp only [World.size_alloc, World.size_setCell] at q5
            have M5 : w5.heap[mb]? = some (.cells #[.int .i64 T, .int .i64 (B), .int .i64 (G + (x - L))] 29) := by
              rw [hb5.block mb (by simp; omega), Below.heap_alloc _ _ _ (by simp; omega), set_blk HMM.out]; rfl
            have R5 : w5.heap[rb]? = some (.cells #[.int .i64 0, .int .i64 0, .int .i64 0] 29) := by
              rw [hb5.block rb (by simp; omega), Below.heap_alloc _ _ _ (by simp; omega), Below.heap_setCell _ _ _ _ (by simp; omega)]; exact HRR.out
            have G5 : w5.heap[g]? = w3.heap[g]? := by
              rw [hb5.block g (by simp; omega), Below.heap_alloc _ _ _ (by simp; omega), Below.heap_setCell _ _ _ _ (by simp; omega)]; exact HGG.out
            have B5 : Below w.heap.size w w5 := ((bel.setCell (by simp; omega) _).alloc (by simp; omega) _).trans (hb5.mono (by simp; omega))
            have HM5 := Lib.hid M5
            obtain ⟨d5, e5⟩ := block_cells M5
            clear hb5 M5
            go_wp2_with fail
            go_roundw
            case rel => first | exact ⟨k + 1, T, B, G + (x - L), x, false, by omega, by go_num, rfl, rfl, HBS.out, fun _ => by first | (rw [par_succ, hp]; rfl) | omega, hbk, hgk, by have := HTT.out; omega, HM5.out, R5, G5, B5, by omega⟩ | ((repeat apply Exists.intro); exact ⟨⟨k + 1, T, B, G + (x - L), x, false, by omega, by go_num, rfl, rfl, HBS.out, fun _ => by first | (rw [par_succ, hp]; rfl) | omega, hbk, hgk, by have := HTT.out; omega, HM5.out, R5, G5, B5, by omega⟩, rfl⟩)
            case measure => simp [intOf]; omega
      · obtain rfl : k = n + 1 := by omega
        have HMM := Lib.hid hM
        obtain rfl : T = (n + 1) / 2 := by omega
        clear hM hR hg hs hL
        go_wp2_with fail
        refine bodyPost_ret (v := .tuple #[.agg #[.int .i64 ((n + 1) / 2 : Nat), .int .i64 (bdS us (n + 1)), .int .i64 (gdS us (n + 1))], .int .i64 0]) (by simp [results, Tryz.results7, go_sem, ↓IntWalk.iteOmega, *]) rfl ?_
        exact ⟨rfl, (by repeat (first | (with_reducible exact Below.refl _ _) | ((with_reducible refine Below.alloc ?_ ?_ _); rotate_left; (next => ((try dsimp only); (try simp only [World.size_alloc, World.size_setCell, World.size_drew]); omega))) | ((with_reducible refine Below.setCell ?_ ?_ _); rotate_left; (next => ((try dsimp only); (try simp only [World.size_alloc, World.size_setCell, World.size_drew]); omega))) | (with_reducible refine Below.drew ?_) | (with_reducible exact bel)))⟩
end Go.Proofs.YtpomdnglknbanaaGreat
namespace Go.Proofs.YtpomdnglknbanaaGreat
open Go.RowKit

/-- Turns of the statements' own, an end no sooner than the last, and what comes out. -/
theorem marks_pack (ts : List Int) (n : Nat) (F : Int) (hn : ts.length = n) (hm : Mono ts F) : ∃ B G : Int, bdS (ts ++ [F]) (n + 1) = B ∧ gdS (ts ++ [F]) (n + 1) = G ∧ B + G = F ∧ 0 ≤ B ∧ 0 ≤ G := by
  have h1 := bd_nonneg hm.append (k := n + 1) (by simp [hn])
  have h2 := bd_gd (ts ++ [F]) (n + 1)
  rw [bef_succ, ← hn, get_last] at h2
  rw [hn] at h2
  exact ⟨_, _, rfl, rfl, h2, h1.1, h1.2⟩
theorem mof_at (A : Option Addr) (n c : Nat) (l : List Int) (e B G T : Int) (w : World) (h : InTurns w A n c l) (hm : n ≤ 64) (hl : Mono l e) (he : e ≤ 1073741824) (hB : bdS (l ++ [e]) (n + 1) = B) (hG : gdS (l ++ [e]) (n + 1) = G) (hT : ((n + 1) / 2 : Nat) = T) :
    Calls Tryz.prog 7 #[.slice A n c, .int .i64 e] w fun x w' => x = .returned (.tuple #[.agg #[.int .i64 T, .int .i64 B, .int .i64 G], .int .i64 0]) ∧ Below w.heap.size w w' := by
  subst hB hG hT
  exact mof_ok A n c l e w h hm hl he
theorem InTurns.below {w w' : World} {A : Option Addr} {n c : Nat} {l : List Int} (h : InTurns w A n c l) (hb : Below w.heap.size w w') : InTurns w' A n c l := ⟨h.1.below hb, h.2⟩
theorem in_nil (w : World) : InTurns w none 0 0 [] := ⟨⟨rfl, fun h => absurd h (by omega)⟩, Nat.le_refl _, Nat.zero_le _, fun _ => ⟨rfl, rfl⟩⟩
theorem in_one (w : World) (t : Int) : InTurns (w.alloc (.cells #[.int .i64 t, .bool true] 27)) (some ⟨w.heap.size, 0, none⟩) 1 1 [t] := by
  refine ⟨⟨rfl, fun _ => ⟨w.heap.size, 0, rfl, by simp, fun k hk => ?_⟩⟩, Nat.le_refl _, by decide, fun h => by cases h⟩
  obtain rfl : k = 0 := by omega
  constructor
  · rw [World.cell?_alloc_new]; rfl
  · rw [World.cell?_alloc_new]; rfl
theorem in_two (w : World) (t u : Int) : InTurns (w.alloc (.cells #[.int .i64 t, .bool true, .int .i64 u, .bool false] 27)) (some ⟨w.heap.size, 0, none⟩) 2 2 [t, u] := by
  refine ⟨⟨rfl, fun _ => ⟨w.heap.size, 0, rfl, by simp, fun k hk => ?_⟩⟩, Nat.le_refl _, by decide, fun h => by cases h⟩
  rcases (by omega : k = 0 ∨ k = 1) with rfl | rfl
  · constructor
    · rw [World.cell?_alloc_new]; rfl
    · rw [World.cell?_alloc_new]; rfl
  · constructor
    · rw [World.cell?_alloc_new]; rfl
    · rw [World.cell?_alloc_new]; rfl
end Go.Proofs.YtpomdnglknbanaaGreat
