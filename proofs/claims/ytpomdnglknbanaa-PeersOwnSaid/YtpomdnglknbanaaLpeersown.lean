import Derived.Test.YtpomdnglknbanaaVq
import Derived.Test.YtpomdnglknbanaaPa
import Derived.Test.YtpomdnglknbanaaPz
import Derived.Maps.AppendAt
import Derived.Deep.DeepCutAuto
set_option linter.unusedSimpArgs false
set_option linter.unusedVariables false
namespace Go.Proofs.Ytpomdnglknbanaa
open Go Go.RowKit
/-- A table is answered that is new. -/
def NewTab (w : World) (v : Value) (w' : World) : Prop := ∃ (A' : Option Addr) (n' c' : Nat) (L' : List Peer), v = .slice A' n' c' ∧ Tab w' w.heap.size A' n' c' L' ∧ L'.length = n' ∧ n' ≤ 7 ∧ (∀ k, k < n' → (L'.getD k default).vals.length ≤ 64) ∧ Below w.heap.size w w'
theorem NewTab.nil {w w' : World} (hb : Below w.heap.size w w') : NewTab w (.slice none 0 0) w' := ⟨none, 0, 0, [], rfl, ⟨[], World.ownsRow_nil _ _ _ _, rfl⟩, rfl, by omega, fun k hk => absurd hk (by omega), hb⟩
theorem mem_getD {L : List Peer} {k : Nat} (hk : k < L.length) : L.getD k default ∈ L := by
  rw [List.getD_eq_getElem?_getD, List.getElem?_eq_getElem hk]; exact List.getElem_mem _
section
variable (A : Option Addr) (n c : Nat) (L : List Peer) (f : Nat → Prop) (id : ByteArray) (w : World)
theorem addT_any (size first now : Int) (hr : PRow w A n L f) (hn : n ≤ 9223372036854775807) (hz : ∀ k, k < n → (L.getD k default).id.size ≤ 9223372036854775807) (hm : id.size ≤ 9223372036854775807) :
    Calls Try.prog 38 #[.slice A n c, .string id, .int .i64 size, .int .i64 first, .int .i64 now] w fun e w' => ∃ v k, e = .returned (.tuple #[v, .int .i64 k]) ∧ NewTab w v w' := by
  by_cases hok : AddOK L id size first now
  · refine (padd_yes A n c L f id size first now w hr hok).mono fun e w' ⟨A', c', e1, e2, e3⟩ => ⟨_, 0, e1, A', n + 1, c', _, rfl, e2, by rw [addS_len, hr.1], by have := hok.2.2.2.2.2.2; have := hr.1; omega, fun k hk => ?_, e3⟩
    exact hok.tab.vals k (by rw [addS_len, hr.1]; exact hk)
  · exact (padd_not A n c L f id size first now w hr hn hz hm hok).mono fun e w' ⟨⟨k, _, e1⟩, e2⟩ => ⟨_, k, e1, NewTab.nil e2⟩
theorem dropT_any (hr : PRow w A n L f) (hn : n ≤ 9223372036854775807) (hz : ∀ k, k < n → (L.getD k default).id.size ≤ 9223372036854775807) :
    Calls Try.prog 40 #[.slice A n c, .string id] w fun e w' => ∃ v k, e = .returned (.tuple #[v, .int .i64 k]) ∧ NewTab w v w' := by
  by_cases h1 : TabOK L
  · cases hb : has L id with
    | true =>
      have hl : (dropS L id).length = n - 1 := by
        have := has_lt hb
        have := hr.1
        unfold dropS
        simp
        omega
      refine (pdrop_ok A n c L f id w hr h1 hb).mono fun e w' ⟨A', c', e1, e2, e3⟩ => ⟨_, 0, e1, A', n - 1, c', _, rfl, e2, hl, by have := h1.len; have := hr.1; omega, fun k hk => ?_, e3⟩
      have hm := mem_getD (L := dropS L id) (k := k) (by omega)
      have hm2 : (dropS L id).getD k default ∈ L := by
        unfold dropS at hm ⊢
        rcases List.mem_append.1 hm with h | h
        · exact List.mem_of_mem_take h
        · exact List.mem_of_mem_drop h
      have hw := (h1.each _ hm2).win
      have a := hw.2.1
      have b := hw.2.2.1
      omega
    | false => exact (pdrop_none A n c L f id w hr h1 hb).mono fun e w' ⟨e1, e2⟩ => ⟨_, 4, e1, NewTab.nil e2⟩
  · exact (pdrop_tab A n c L f id w hr hn hz h1).mono fun e w' ⟨⟨k, _, e1⟩, e2⟩ => ⟨_, k, e1, NewTab.nil e2⟩
theorem hearT_any (i s now : Int) (hr : PRow w A n L f) (hn : n ≤ 9223372036854775807) (hz : ∀ k, k < n → (L.getD k default).id.size ≤ 9223372036854775807) (hm : id.size ≤ 9223372036854775807) :
    Calls Try.prog 42 #[.slice A n c, .agg #[.string id, .int .i64 i, .int .i64 s], .int .i64 now] w fun e w' => ∃ v b k, e = .returned (.tuple #[v, .bool b, .int .i64 k]) ∧ NewTab w v w' := by
  by_cases hok : HearOK L id i s now
  · have hl : (hearS L id i s now).length = n := by rw [len_ids (hearS_ids ..), hr.1]
    refine (hear_yes A n c L f id i s now w hr hok).mono fun e w' ⟨A', c', e1, e2, e3⟩ => ⟨_, _, 0, e1, A', n, c', _, rfl, e2, hl, by have := hok.1.len; have := hr.1; omega, fun k hk => ?_, e3⟩
    exact hok.tab.vals k (by omega)
  · exact (hear_not A n c L f id i s now w hr hn hz hm hok).mono fun e w' ⟨⟨k, _, e1⟩, e2⟩ => ⟨_, false, k, e1, NewTab.nil e2⟩
end
def pick3 {α : Type} (a b c : α) (j : Nat) : α := if j = 0 then a else if j = 1 then b else c
/-- The j-th table of what was answered, as it was when it was made; its blocks lie between lo j and lo (j + 1). -/
structure GotT (w : World) (lo : Nat → Nat) (A : Nat → Option Addr) (N C : Nat → Nat) (L : Nat → List Peer) (j : Nat) : Prop where
  ex : ∃ w0 xs, w0.ownsRow (lo j) 56 7 (.slice (A j) (N j) (C j)) (N j) xs ∧ PVs w0 (lo j) (L j) xs ∧ lo j ≤ w0.heap.size ∧ w0.heap.size ≤ lo (j + 1) ∧ Same (fun b => lo j ≤ b ∧ b < w0.heap.size) w0 w
  len : (L j).length = N j
  n7 : N j ≤ 7
  v64 : ∀ k, k < N j → ((L j).getD k default).vals.length ≤ 64
theorem Same.trans' {f : Nat → Prop} {w w1 w2 : World} (h : Same f w w1) (k : ∀ b, b < w.heap.size → f b → w2.heap[b]? = w1.heap[b]?) (hz : w1.heap.size ≤ w2.heap.size) : Same f w w2 :=
  ⟨Nat.le_trans h.1 hz, fun b hb hf => (k b hb hf).trans (h.2 b hb hf)⟩
theorem GotT.same {w w' : World} {lo : Nat → Nat} {A : Nat → Option Addr} {N C : Nat → Nat} {L : Nat → List Peer} {j : Nat} (h : GotT w lo A N C L j) (hz : w.heap.size ≤ w'.heap.size) (hb : ∀ g, lo j ≤ g → g < lo (j + 1) → g < w.heap.size → w'.heap[g]? = w.heap[g]?) : GotT w' lo A N C L j := by
  obtain ⟨w0, xs, h1, h2, h3, h4, h5⟩ := h.ex
  exact ⟨⟨w0, xs, h1, h2, h3, h4, h5.trans' (fun b hb0 hf => hb b hf.1 (by omega) (Nat.lt_of_lt_of_le hb0 h5.1)) hz⟩, h.len, h.n7, h.v64⟩
theorem GotT.row {w : World} {lo : Nat → Nat} {A : Nat → Option Addr} {N C : Nat → Nat} {L : Nat → List Peer} {j : Nat} (h : GotT w lo A N C L j) : PRow w (A j) (N j) (L j) (fun b => lo j ≤ b ∧ b < lo (j + 1)) := by
  obtain ⟨w0, xs, h1, h2, h3, h4, h5⟩ := h.ex
  exact ((prow_own h1 h2 (Nat.le_refl _)).same h5).imp (fun b hb => ⟨hb.1, by omega⟩)
theorem GotT.nil {w : World} {lo : Nat → Nat} {A : Nat → Option Addr} {N C : Nat → Nat} {L : Nat → List Peer} {j : Nat} (h : GotT w lo A N C L j) : A j = none → N j = 0 ∧ C j = 0 := fun e => by
  obtain ⟨w0, xs, h1, _⟩ := h.ex
  obtain ⟨A', c', e1, _, _, hn⟩ := own_form h1
  simp only [Value.slice.injEq, true_and] at e1
  obtain ⟨rfl, rfl⟩ := e1
  exact hn e
theorem got_new {w w' w2 : World} {v : Value} (h : NewTab w v w') (hb : Below w'.heap.size w' w2) : ∃ (A' : Option Addr) (n' c' : Nat) (L' : List Peer), v = .slice A' n' c' ∧ (∃ w0 xs, w0.ownsRow w.heap.size 56 7 (.slice A' n' c') n' xs ∧ PVs w0 w.heap.size L' xs ∧ w.heap.size ≤ w0.heap.size ∧ w0.heap.size ≤ w'.heap.size ∧ Same (fun b => w.heap.size ≤ b ∧ b < w0.heap.size) w0 w2) ∧ L'.length = n' ∧ n' ≤ 7 ∧ ∀ k, k < n' → (L'.getD k default).vals.length ≤ 64 := by
  obtain ⟨A', n', c', L', e, ⟨xs, h1, h2⟩, h3, h4, h5, h6⟩ := h
  exact ⟨A', n', c', L', e, ⟨w', xs, h1, h2, h6.size, Nat.le_refl _, Same.of_below hb⟩, h3, h4, h5⟩
theorem info_peersR : (Try.prog.info? 47).map (fun i => (i.zero, i.size, i.bytes)) = some (some (.slice none 0 0), 1, 24) := by kernel_rfl
set_option maxRecDepth 100000 in
set_option maxHeartbeats 32000000 in
theorem peersOwn_walk (A : Option Addr) (n c : Nat) (L : List Peer) (id bid : ByteArray) (bi bq now : Int) (w : World) (hr : PRow w A n L (fun _ => True)) (hn : n ≤ 9223372036854775807) (hz : ∀ k, k < n → (L.getD k default).id.size ≤ 9223372036854775807)
    (hnil : A = none → n = 0 ∧ c = 0) (hb : n * 80 ≤ 140737488351232) (hv : ∀ k, k < n → (L.getD k default).vals.length * 8 ≤ 140737488351232) (hm : id.size ≤ maxLen) (hbm : bid.size ≤ maxLen) (_ : (Lit.int .i64 bi).wf = true) (_ : (Lit.int .i64 bq).wf = true) (_ : (Lit.int .i64 now).wf = true) :
    Calls Try.prog 7 #[.slice A n c, .string id, .agg #[.string bid, .int .i64 bi, .int .i64 bq], .int .i64 now] w fun e w' => e = .returned (.bool true) ∧ Below w.heap.size w w' := by
  unfold maxLen at hm hbm
  have HR := Lib.hid hr
  have HB := Lib.hid (fun w' => pbegun_ok w')
  have HCo := Lib.hid (fun w' (h : PRow w' A n L (fun _ => True)) => copiedR_ok A n c L _ w' h hnil hb hv)
  have HSl := Lib.hid (fun g f w' (h : PRow w' (some ⟨g, 0, none⟩) n L f) (h' : PRow w' A n L (fun _ => True)) => samePeers_ok (some ⟨g, 0, none⟩) A n (n + 3) c L f _ w' h h' (by omega) (fun k hk => by have := hv k hk; omega))
  have HAd := Lib.hid (fun g f w' (h : PRow w' (some ⟨g, 0, none⟩) n L f) => addT_any (some ⟨g, 0, none⟩) n (n + 3) L f id w' 3 5 7 h hn hz (by omega))
  have HDr := Lib.hid (fun g f w' (h : PRow w' (some ⟨g, 0, none⟩) n L f) => dropT_any (some ⟨g, 0, none⟩) n (n + 3) L f id w' h hn hz)
  have HHe := Lib.hid (fun g f w' (h : PRow w' (some ⟨g, 0, none⟩) n L f) => hearT_any (some ⟨g, 0, none⟩) n (n + 3) L f bid w' bi bq now h hn hz (by omega))
  have HV := Lib.hid hv
  have HLn := Lib.hid hr.1
  have qa := alloc_cells
  have qf := alloc_frozens
  clear hr hz hnil hv
  go_enter Try.func7, Try.ntmps7
  go_wp2_with fail
  have b0 : Below w.heap.size w (w.alloc (.cells #[.string bid, .int .i64 bi, .int .i64 bq] 42)) := (Below.refl _ _).alloc (Nat.le_refl _) _
  have bc0 : ∀ i, (w.alloc (.cells #[.string bid, .int .i64 bi, .int .i64 bq] 42)).cell? ⟨w.heap.size, i, none⟩ = (#[.string bid, .int .i64 bi, .int .i64 bq] : Array Value)[i]? := fun i => World.cell?_alloc_new _ _ _ i
  have y0 : w.heap.size < (w.alloc (.cells #[.string bid, .int .i64 bi, .int .i64 bq] 42)).heap.size := by simp
  generalize w.alloc (.cells #[.string bid, .int .i64 bi, .int .i64 bq] 42) = w0 at b0 bc0 y0 ⊢
  have B0 := Lib.hid b0
  have BC := Lib.hid bc0
  obtain ⟨bx, hbx⟩ : ∃ q, w.heap.size = q := ⟨_, rfl⟩
  have HBx := Lib.hid hbx
  rw [hbx] at BC y0 ⊢
  clear b0 bc0 hbx qa qf
  refine (HB.out w0).mono ?_
  rintro e w1 ⟨rfl, hb1⟩
  have B1 := Lib.hid (B0.out.trans (hb1.mono B0.out.size))
  have K1 := Lib.hid hb1
  have y1 := hb1.size
  clear hb1
  go_wp2_with fail
  refine (HCo.out w1 (HR.out.below B1.out)).mono ?_
  rintro e w2 ⟨g, xs, rfl, own2, pv2, mk2, wn2, hb2⟩
  have T2 := Lib.hid (And.intro own2 pv2)
  have M2 := Lib.hid mk2
  have W2 := Lib.hid wn2
  have P2 := Lib.hid (prow_own own2 pv2 (Nat.le_refl _))
  have B2 := Lib.hid (B1.out.trans (hb2.mono B1.out.size))
  have K2 := Lib.hid (K1.out.trans (hb2.mono y1))
  have y2 := hb2.size
  clear own2 pv2 mk2 wn2 hb2
  go_wp2_with fail
  refine (HAd.out g _ w2 P2.out).mono ?_
  rintro e w3 ⟨v1, k1, rfl, new1⟩
  have N1 := Lib.hid new1
  have hb3 : Below w2.heap.size w2 w3 := by obtain ⟨_, _, _, _, _, _, _, _, _, h⟩ := new1; exact h
  have B3 := Lib.hid (B2.out.trans (hb3.mono B2.out.size))
  have K3 := Lib.hid hb3
  have P3 := Lib.hid (P2.out.below hb3)
  have y3 := hb3.size
  clear new1 hb3
  go_wp2_with fail
  refine (HDr.out g _ w3 P3.out).mono ?_
  rintro e w4 ⟨v2, k2, rfl, new2⟩
  have N2 := Lib.hid new2
  have hb4 : Below w3.heap.size w3 w4 := by obtain ⟨_, _, _, _, _, _, _, _, _, h⟩ := new2; exact h
  have B4 := Lib.hid (B3.out.trans (hb4.mono B3.out.size))
  have K4 := Lib.hid hb4
  have P4 := Lib.hid (P3.out.below hb4)
  have y4 := hb4.size
  have K24 := Lib.hid (K3.out.trans (hb4.mono y3))
  have x0 : w4.cell? ⟨bx, 0, none⟩ = some (.string bid) := (K24.out.cell (p := ⟨bx, 0, none⟩) (by show bx < _; omega)).trans ((K2.out.cell (p := ⟨bx, 0, none⟩) y0).trans (BC.out 0))
  have x1 : w4.cell? ⟨bx, 1, none⟩ = some (.int .i64 bi) := (K24.out.cell (p := ⟨bx, 1, none⟩) (by show bx < _; omega)).trans ((K2.out.cell (p := ⟨bx, 1, none⟩) y0).trans (BC.out 1))
  have x2 : w4.cell? ⟨bx, 2, none⟩ = some (.int .i64 bq) := (K24.out.cell (p := ⟨bx, 2, none⟩) (by show bx < _; omega)).trans ((K2.out.cell (p := ⟨bx, 2, none⟩) y0).trans (BC.out 2))
  clear new2 hb4
  go_wp2_with fail
  refine (HHe.out g _ w4 P4.out).mono ?_
  rintro e w5 ⟨v3, tk, k3, rfl, new3⟩
  have N3 := Lib.hid new3
  have hb5 : Below w4.heap.size w4 w5 := by obtain ⟨_, _, _, _, _, _, _, _, _, h⟩ := new3; exact h
  have B5 := Lib.hid (B4.out.trans (hb5.mono B4.out.size))
  have K5 := Lib.hid hb5
  have P5 := Lib.hid (P4.out.below hb5)
  have y5 := hb5.size
  clear new3 hb5 x0 x1 x2
  go_wp2_with fail
  refine (HSl.out g _ w5 P5.out (HR.out.below B5.out)).mono ?_
  rintro e w6 ⟨rfl, hb6⟩
  have B6 := Lib.hid (B5.out.trans (hb6.mono B5.out.size))
  have K6 := Lib.hid hb6
  have K26 := Lib.hid (K24.out.trans ((K5.out.trans (hb6.mono y5)).mono (by omega)))
  have y6 := hb6.size
  clear hb6 HAd HDr HHe HSl HCo HB HR
  have O6 := Lib.hid (own_below T2.out.1 K26.out)
  have hgl := (O6.out.lt g rfl).2
  have hgl2 := (T2.out.1.lt g rfl).2
  have HWr := Lib.hid (own_wrS O6.out)
  have n3 : (n : Int) ≤ ((n + 3 : Nat) : Int) := by omega
  have n4 : ((n + 3 : Nat) : Int) - (n : Int) = 3 := by omega
  have n5 : n + 3 - n = 3 := by omega
  have n6 : ¬ n + 3 = n := by omega
  go_wp2_with fail
  go_loopw [62] (fun i wr => ∃ k : Nat, k ≤ 3 ∧ i = .int .i64 k ∧ Below w6.heap.size w6 wr) (fun i _ => 3 - (intOf i).toNat)
  case atStart => exact ⟨0, by omega, rfl, Below.refl _ _⟩
  case round =>
    obtain ⟨wx, rfl⟩ : ∃ q : World, q = wr := ⟨_, rfl⟩
    obtain ⟨k, hk, rfl, bel⟩ := hrel
    have szx := bel.size
    have BX := Lib.hid bel
    by_cases hlt : k < 3
    · have cl : ∀ i, i < 7 → wx.cell? ⟨g, n * 7 + k * 7 + i, none⟩ = markL[i]? := fun i hi => by
        have := M2.out k hlt i hi
        rw [show (n + k) * 7 + i = n * 7 + k * 7 + i by omega] at this
        exact (BX.out.cell (p := ⟨g, n * 7 + k * 7 + i, none⟩) hgl).trans ((K26.out.cell (p := ⟨g, n * 7 + k * 7 + i, none⟩) hgl2).trans this)
      have h0 : wx.cell? ⟨g, n * 7 + k * 7, none⟩ = some (.string ⟨#[]⟩) := cl 0 (by omega)
      have h1 : wx.cell? ⟨g, n * 7 + k * 7 + 1, none⟩ = some (.int .i64 0) := cl 1 (by omega)
      have h2 : wx.cell? ⟨g, n * 7 + k * 7 + 2, none⟩ = some (.int .i64 0) := cl 2 (by omega)
      have h3 : wx.cell? ⟨g, n * 7 + k * 7 + 3, none⟩ = some (.int .i64 0) := cl 3 (by omega)
      have h4 : wx.cell? ⟨g, n * 7 + k * 7 + 4, none⟩ = some (.int .i64 0) := cl 4 (by omega)
      have h5 : wx.cell? ⟨g, n * 7 + k * 7 + 5, none⟩ = some (.slice none 0 0) := cl 5 (by omega)
      have h6 : wx.cell? ⟨g, n * 7 + k * 7 + 6, none⟩ = some (.int .i64 77) := cl 6 (by omega)
      have kl : (k : Int) < 3 := by omega
      have kw : IntKind.i64.wrap ((k : Int) + 1) = (k : Int) + 1 := IntWalk.i64_in _ (by omega)
      have qa := alloc_cells
      have qf := alloc_frozens
      clear bel cl
      go_wp2_with fail
      go_roundw
      case rel => exact ⟨k + 1, by omega, by go_num, BX.out.alloc BX.out.size _⟩
      case measure => simp [intOf]; omega
    · obtain rfl : k = 3 := by omega
      have K7 := Lib.hid (K26.out.trans (bel.mono (by omega)))
      have B7 := Lib.hid (B6.out.trans (bel.mono B6.out.size))
      have y7 := bel.size
      have K67 := Lib.hid bel
      obtain ⟨w7, hw7⟩ : ∃ q : World, q = wx := ⟨_, rfl⟩
      subst hw7
      clear bel BX n3 n4 n5 n6
      go_wp2_with fail
      have e3 : ((3 : Nat) : Int) = 3 := rfl
      have e4 : n + 3 - n = 3 := by omega
      simp only [e3, e4]
      clear e3 e4
      go_loopw [72] (fun i wr => ∃ k : Nat, k ≤ n ∧ i = .int .i64 k ∧ Below w7.heap.size w7 wr) (fun i _ => n - (intOf i).toNat)
      case atStart => exact ⟨0, Nat.zero_le _, rfl, Below.refl _ _⟩
      case round =>
        obtain ⟨wx, rfl⟩ : ∃ q : World, q = wr := ⟨_, rfl⟩
        obtain ⟨k, hk, rfl, bel⟩ := hrel
        have szx := bel.size
        have BX := Lib.hid bel
        by_cases hlt : k < n
        · obtain ⟨u, ⟨v, rfl, _⟩, hu⟩ := T2.out.2.get (k := k) (by rw [HLn.out]; exact hlt)
          obtain ⟨gk, hgk, room⟩ := W2.out k hlt
          have hvb := HV.out k hlt
          obtain ⟨p, hp⟩ : ∃ p, L.getD k default = p := ⟨_, rfl⟩
          rw [hp] at hu hgk room hvb
          have ev : v = .slice (some ⟨gk, 0, none⟩) p.vals.length (p.vals.length + 3) := by
            have := hu 5 (by omega)
            rw [hgk] at this
            injection this with this
            exact this.symm
          subst ev
          have K8 := K7.out.trans (bel.mono (by omega))
          have ox := own_below T2.out.1 K8
          have cell : ∀ i, i < 7 → ∀ u, (peerL p (.slice (some ⟨gk, 0, none⟩) p.vals.length (p.vals.length + 3)))[i]? = some u → wx.cell? ⟨g, k * 7 + i, none⟩ = some u := fun i hi u hu' => by
            have := ox.cells (g := g) rfl (k * 7 + i) u (by rw [hu i hi]; exact hu')
            rw [Go.WideShapes.add_plain, Nat.zero_add] at this
            exact this
          have k0 : wx.cell? ⟨g, k * 7, none⟩ = some (.string p.id) := cell 0 (by omega) _ rfl
          have k1' := cell 1 (by omega) _ rfl
          have k2' := cell 2 (by omega) _ rfl
          have k3' := cell 3 (by omega) _ rfl
          have k4' := cell 4 (by omega) _ rfl
          have k5' := cell 5 (by omega) _ rfl
          have k6' := cell 6 (by omega) _ rfl
          have HMa := Lib.hid (fun w' (h : Below wx.heap.size wx w') => marked_ok _ gk p.vals.length p.vals (-78) w' ((room.below K8).below h) hvb)
          have kl : (k : Int) < n := by omega
          have kw : IntKind.i64.wrap ((k : Int) + 1) = (k : Int) + 1 := IntWalk.i64_in _ (by omega)
          have qa := alloc_cells
          have qf := alloc_frozens
          clear bel cell hu hgk room K8 ox hp
          go_wp2_with fail
          have hAl : Below wx.heap.size wx (wx.alloc (.cells #[.string p.id, .int .i64 p.inc, .int .i64 p.seq, .int .i64 p.drops, .int .i64 p.cap, .slice (some ⟨gk, 0, none⟩) p.vals.length (p.vals.length + 3), .int .i64 p.last] 56)) := (Below.refl _ _).alloc (Nat.le_refl _) _
          refine (HMa.out _ hAl).mono ?_
          rintro e w' ⟨rfl, rfl⟩
          have BX2 := Lib.hid (BX.out.trans (hAl.mono szx))
          clear hAl qa qf
          go_wp2_with fail
          go_roundw
          case rel => first | exact ⟨k + 1, by omega, by go_num, BX2.out⟩ | ((repeat apply Exists.intro); exact ⟨⟨k + 1, by omega, by go_num, BX2.out⟩, rfl⟩)
          case measure => simp [intOf]; omega
        · obtain rfl : n = k := by omega
          have K6x := K67.out.trans (bel.mono y7)
          have K5x := K6.out.trans (K6x.mono y6)
          have K4x := K5.out.trans (K5x.mono y5)
          have K3x := K4.out.trans (K4x.mono y4)
          have K9 := Lib.hid (K7.out.trans (bel.mono (by omega)))
          have B9 := Lib.hid (B7.out.trans (bel.mono B7.out.size))
          have z5 := K5x.size
          obtain ⟨A1, n1, c1, L1, rfl, e1, l1, m1, x1⟩ := got_new N1.out K3x
          obtain ⟨A2, n2, c2, L2, rfl, e2, l2, m2, x2⟩ := got_new N2.out K4x
          obtain ⟨A3, n3', c3, L3, rfl, e3, l3, m3, x3⟩ := got_new N3.out K5x
          obtain ⟨lo, AA, NN, CC, LL, hgot, hcell, hlo0, hlo3, hmono⟩ : ∃ (lo : Nat → Nat) (AA : Nat → Option Addr) (NN CC : Nat → Nat) (LL : Nat → List Peer), (∀ j, j < 3 → GotT wx lo AA NN CC LL j) ∧ (∀ j, j < 3 → (wx.alloc (.cells #[.slice A1 n1 c1, .slice A2 n2 c2, .slice A3 n3' c3] 47)).cell? ⟨wx.heap.size, j, none⟩ = some (.slice (AA j) (NN j) (CC j))) ∧ lo 0 = w2.heap.size ∧ lo 3 = w5.heap.size ∧ ∀ i j, i ≤ j → j ≤ 3 → lo i ≤ lo j := by
            refine ⟨fun j => if j = 0 then w2.heap.size else if j = 1 then w3.heap.size else if j = 2 then w4.heap.size else w5.heap.size, pick3 A1 A2 A3, pick3 n1 n2 n3', pick3 c1 c2 c3, pick3 L1 L2 L3, fun j hj => ?_, fun j hj => ?_, rfl, rfl, fun i j hij hj => ?_⟩
            · rcases (show j = 0 ∨ j = 1 ∨ j = 2 by omega) with rfl | rfl | rfl
              · exact ⟨e1, l1, m1, x1⟩
              · exact ⟨e2, l2, m2, x2⟩
              · exact ⟨e3, l3, m3, x3⟩
            · rw [World.cell?_alloc_new]
              rcases (show j = 0 ∨ j = 1 ∨ j = 2 by omega) with rfl | rfl | rfl <;> rfl
            · rcases (show j = 0 ∨ j = 1 ∨ j = 2 ∨ j = 3 by omega) with rfl | rfl | rfl | rfl <;> rcases (show i = 0 ∨ i = 1 ∨ i = 2 ∨ i = 3 by omega) with rfl | rfl | rfl | rfl <;> first | (exfalso; omega) | (simp; done) | (simp; omega)
          have HG0 := Lib.hid hgot
          have HC0 := Lib.hid hcell
          have HLo := Lib.hid (And.intro hlo0 (And.intro hlo3 hmono))
          have qa := alloc_cells
          have qf := alloc_frozens
          clear K6x K5x K4x K3x e1 e2 e3 l1 l2 l3 m1 m2 m3 x1 x2 x3 hgot hcell hlo0 hlo3 hmono bel BX N1 N2 N3
          go_wp2_with fail
          have ab : Below wx.heap.size wx (wx.alloc (.cells #[.slice A1 n1 c1, .slice A2 n2 c2, .slice A3 n3' c3] 47)) := (Below.refl _ _).alloc (Nat.le_refl _) _
          have B10 := Lib.hid (B9.out.trans (ab.mono B9.out.size))
          have K10 := Lib.hid (K9.out.trans (ab.mono K9.out.size))
          have HG := Lib.hid (fun j (hj : j < 3) => (HG0.out j hj).same ab.size (fun b _ _ h => ab.block b h))
          have y10 : wx.heap.size < (wx.alloc (.cells #[.slice A1 n1 c1, .slice A2 n2 c2, .slice A3 n3' c3] 47)).heap.size := by simp
          generalize (wx.alloc (.cells #[.slice A1 n1 c1, .slice A2 n2 c2, .slice A3 n3' c3] 47)) = w10 at HC0 B10 K10 HG y10 ⊢
          obtain ⟨bs, hbs⟩ : ∃ q, wx.heap.size = q := ⟨_, rfl⟩
          have HBs := Lib.hid (show w5.heap.size ≤ bs ∧ bs < w10.heap.size by omega)
          rw [hbs] at HC0 ⊢
          clear ab hbs y10 HG0 qa qf
          obtain ⟨i0, hi, hz0, hz1, hz2⟩ := info_parts info_peersR
          go_loopw [22, 88] (fun v i wr => ∃ (k : Nat) (Bb : Nat → Option Addr) (d : Nat → Nat), k ≤ 3 ∧ i = .int .i64 k ∧ wr.ownsRow w10.heap.size 47 1 v k ((List.range k).map fun j => Value.slice (Bb j) (NN j) (d j)) ∧ (∀ j, j < k → ∃ xs, wr.ownsRow w10.heap.size 56 7 (.slice (Bb j) (NN j) (d j)) (NN j) xs ∧ PVs wr w10.heap.size (LL j) xs) ∧ Below w10.heap.size w10 wr) (fun _ i _ => 3 - (intOf i).toNat)
          case atStart => exact ⟨0, fun _ => none, fun _ => 0, Nat.zero_le _, rfl, World.ownsRow_nil _ _ _ _, fun j hj => absurd hj (by omega), Below.refl _ _⟩
          case round =>
            obtain ⟨wx, rfl⟩ : ∃ q : World, q = wr := ⟨_, rfl⟩
            obtain ⟨k, Bb, d, hk, rfl, hown, hrows, bel⟩ := hrel
            have szx := bel.size
            by_cases hlt : k < 3
            · have hgk := (HG.out k hlt).same szx (fun g _ _ hg => bel.block g hg)
              have kc : wx.cell? ⟨bs, k, none⟩ = some (.slice (AA k) (NN k) (CC k)) := (bel.cell (p := ⟨bs, k, none⟩) HBs.out.2).trans (HC0.out k hlt)
              have HCl := Lib.hid (copiedR_ok (AA k) (NN k) (CC k) (LL k) _ wx hgk.row hgk.nil (by have := hgk.n7; omega) (fun i hi => by have := hgk.v64 i hi; omega))
              have kw : IntKind.i64.wrap ((k : Int) + 1) = (k : Int) + 1 := IntWalk.i64_in _ (by omega)
              have kl : (k : Int) < 3 := by omega
              have O := Lib.hid hown
              have RW := Lib.hid hrows
              have HBe := Lib.hid bel
              obtain ⟨An, cn, rfl, _, _, _⟩ := own_form hown
              obtain ⟨Ak, hAk⟩ : ∃ q, AA k = q := ⟨_, rfl⟩
              obtain ⟨Nk, hNk⟩ : ∃ q, NN k = q := ⟨_, rfl⟩
              obtain ⟨Ck, hCk⟩ : ∃ q, CC k = q := ⟨_, rfl⟩
              rw [hAk, hNk, hCk] at kc HCl
              have HNk := Lib.hid hNk
              clear hgk hown hrows bel hAk hNk hCk
              go_wp2_with fail
              refine HCl.out.mono ?_
              rintro e wy ⟨gv, xv, rfl, ownv, pvv, _, _, hby⟩
              have OV := Lib.hid ownv
              have PV' := Lib.hid pvv
              have OY := Lib.hid (own_below O.out hby)
              have RY := Lib.hid (show ∀ j, j < k → ∃ xs, wy.ownsRow w10.heap.size 56 7 (.slice (Bb j) (NN j) (d j)) (NN j) xs ∧ PVs wy w10.heap.size (LL j) xs from fun j hj => by obtain ⟨ys, h1, h2⟩ := RW.out j hj; exact ⟨ys, own_below h1 hby, h2.below hby⟩)
              have BY := Lib.hid (HBe.out.trans (hby.mono szx))
              have szy := hby.size
              obtain ⟨dv, hdv⟩ : ∃ q, Nk + 3 = q := ⟨_, rfl⟩
              rw [hdv] at OV ⊢
              clear ownv pvv hby hdv
              go_wp2_with (at_builtin; refine wpList_append_own_at _ rfl _ _ 70 rfl w10.heap.size 47 i0 (.slice none 0 0) 1 24 Try.underlying70 hi hz0 hz1 hz2 rfl (by decide) _ k _ rfl (own_below OY.out ((Below.refl _ _).alloc (Nat.le_refl _) _)) ⟨wy.heap.size, 0, none⟩ 1 1 [.slice (some ⟨gv, 0, none⟩) Nk dv] rfl rfl (app1_cells _ _ _) (by intro u hu; simp at hu; subst hu; rfl) (by unfold maxLen; omega) (by omega) (by simp; omega) ?_)
              intro v' wz own' gr' hnil' hor'
              clear hnil' hor'
              have hAl : Below wy.heap.size wy (wy.alloc (.cells #[.slice (some ⟨gv, 0, none⟩) Nk dv] 47)) := (Below.refl _ _).alloc (Nat.le_refl _) _
              have hrow : ((List.range k).map fun j => Value.slice (Bb j) (NN j) (d j)) ++ [.slice (some ⟨gv, 0, none⟩) Nk dv] = (List.range (k + 1)).map fun j => Value.slice (if j = k then some ⟨gv, 0, none⟩ else Bb j) (NN j) (if j = k then dv else d j) := by
                rw [List.range_succ, List.map_append]
                congr 1
                · apply List.map_congr_left
                  intro j hj
                  have := List.mem_range.1 hj
                  rw [if_neg (by omega), if_neg (by omega)]
                · simp [HNk.out]
              rw [hrow] at own'
              have OW := Lib.hid own'
              have RW2 := Lib.hid (show ∀ j, j < k + 1 → ∃ xs, wz.ownsRow w10.heap.size 56 7 (.slice (if j = k then some ⟨gv, 0, none⟩ else Bb j) (NN j) (if j = k then dv else d j)) (NN j) xs ∧ PVs wz w10.heap.size (LL j) xs from fun j hj => by
                by_cases e : j = k
                · subst e
                  rw [if_pos rfl, if_pos rfl, HNk.out]
                  exact ⟨xv, own_grown_other (own_below (own_mono OV.out szx) hAl) (own_below OY.out hAl) (by decide) gr', ((PV'.out.mono szx).below hAl).grown (own_below OY.out hAl) (by decide) gr'⟩
                · rw [if_neg e, if_neg e]
                  obtain ⟨ys, h1, h2⟩ := RY.out j (by omega)
                  exact ⟨ys, own_grown_other (own_below h1 hAl) (own_below OY.out hAl) (by decide) gr', (h2.below hAl).grown (own_below OY.out hAl) (by decide) gr'⟩)
              have BZ := Lib.hid ((BY.out.trans (hAl.mono BY.out.size)).grown gr' (by have := BY.out.size; simp; omega) (fun q hq => (World.ownsRow.lt OY.out q hq).1))
              clear own' gr' hAl hrow
              go_wp2_with fail
              go_roundw
              case rel => exact ⟨k + 1, fun j => if j = k then some ⟨gv, 0, none⟩ else Bb j, fun j => if j = k then dv else d j, by omega, by go_num, OW.out, RW2.out, BZ.out⟩
              case measure => simp [intOf]; omega
            · obtain rfl : k = 3 := by omega
              have hx : Below w.heap.size w wx := B10.out.trans (bel.mono B10.out.size)
              rcases hown.2 with ⟨_, h0⟩ | ⟨bw, cw, cur, rfl, hbw, hgw, hnc, hcm, hcs, htk⟩
              · omega
              have wcell : ∀ j, j < 3 → wx.cell? ⟨bw, j, none⟩ = some (.slice (Bb j) (NN j) (d j)) := fun j hj => by
                have := hown.cells (g := bw) rfl j (Value.slice (Bb j) (NN j) (d j)) (by simp [hj])
                rw [Go.WideShapes.add_plain, Nat.zero_add] at this
                exact this
              have hbwl : bw < wx.heap.size := (Array.getElem?_eq_some_iff.1 hgw).1
              have WC := Lib.hid (And.intro wcell (And.intro hbw hbwl))
              have RW := Lib.hid (fun j (hj : j < 3) => (show PRow wx (Bb j) (NN j) (LL j) (fun b => w10.heap.size ≤ b ∧ b < wx.heap.size) by obtain ⟨ys, h1, h2⟩ := hrows j hj; exact prow_own h1 h2 (Nat.le_refl _)))
              have HSp := Lib.hid (spoilt_ok (some ⟨g, 0, none⟩) n (n + 3) w1.heap.size L xs w2 wx T2.out.1 T2.out.2 (Same.of_below (K10.out.trans (bel.mono K10.out.size))) y2)
              have BX := Lib.hid bel
              have HX := Lib.hid hx
              clear hown hrows bel hx hbw hgw hnc hcm hcs htk wcell hbwl
              go_wp2_with fail
              refine HSp.out.mono ?_
              rintro e w16 ⟨⟨v16, rfl⟩, on16⟩
              have hlo := HLo.out
              have z16 := on16.size
              have z2x : w2.heap.size ≤ w10.heap.size := K10.out.size
              have hbl : ∀ b, b < wx.heap.size → w2.heap.size ≤ b → w16.heap[b]? = wx.heap[b]? := fun b hb' hne => on16.block b hb' (fun e => by omega)
              have hlo0 : ∀ j, j ≤ 3 → w2.heap.size ≤ lo j := fun j hj => by rw [← hlo.1]; exact hlo.2.2 0 j (by omega) hj
              have G16 := Lib.hid (fun j (hj : j < 3) => (((HG.out j hj).same szx (fun b _ _ hb' => BX.out.block b hb')).same z16 (fun b h1 _ hb' => hbl b hb' (by have := hlo0 j (by omega); omega)) : GotT w16 lo AA NN CC LL j))
              have C16 := Lib.hid (fun j (hj : j < 3) => ((World.cell?_of_block (a := ⟨bs, j, none⟩) (hbl bs (by have := HBs.out; omega) (by have := HBs.out; omega))).trans ((BX.out.cell (p := ⟨bs, j, none⟩) HBs.out.2).trans (HC0.out j hj)) : w16.cell? ⟨bs, j, none⟩ = some (.slice (AA j) (NN j) (CC j))))
              have W16 := Lib.hid (fun j (hj : j < 3) => ((World.cell?_of_block (a := ⟨bw, j, none⟩) (hbl bw WC.out.2.2 (by have := WC.out.2.1; omega))).trans (WC.out.1 j hj) : w16.cell? ⟨bw, j, none⟩ = some (.slice (Bb j) (NN j) (d j))))
              have R16 := Lib.hid (fun j (hj : j < 3) => ((RW.out j hj).same ⟨z16, fun b hb' hf => hbl b hb' (by omega)⟩ : PRow w16 (Bb j) (NN j) (LL j) (fun b => w10.heap.size ≤ b ∧ b < wx.heap.size)))
              have B16 := Lib.hid (on16.toBelow HX.out B1.out.size HX.out.size)
              have Z16 := Lib.hid (show bs < w16.heap.size ∧ bw < w16.heap.size ∧ w5.heap.size ≤ bs ∧ w5.heap.size ≤ bw ∧ w5.heap.size ≤ w10.heap.size ∧ wx.heap.size ≤ w16.heap.size by have := HBs.out; have := WC.out.2; omega)
              clear on16 z16 z2x hbl hlo hlo0 HG HC0 WC RW BX HX HSp
              go_wp2_with fail
              go_loopw [102] (fun i wr => ∃ k : Nat, k ≤ 3 ∧ i = .int .i64 k ∧ (∀ b, lo k ≤ b → b < w16.heap.size → wr.heap[b]? = w16.heap[b]?) ∧ w16.heap.size ≤ wr.heap.size ∧ Below w.heap.size w wr) (fun i _ => 3 - (intOf i).toNat)
              case atStart => exact ⟨0, Nat.zero_le _, rfl, fun _ _ _ => rfl, Nat.le_refl _, B16.out⟩
              case round =>
                obtain ⟨wy, rfl⟩ : ∃ q : World, q = wr := ⟨_, rfl⟩
                obtain ⟨k, hk, rfl, hsame, hsz, bel⟩ := hrel
                by_cases hlt : k < 3
                · have hl4 : lo k ≤ w5.heap.size := by rw [← HLo.out.2.1]; exact HLo.out.2.2 k 3 (by omega) (Nat.le_refl _)
                  have z16 := Z16.out
                  have gk := (G16.out k hlt).same hsz (fun b h1 _ hb' => hsame b h1 hb')
                  have kc : wy.cell? ⟨bs, k, none⟩ = some (.slice (AA k) (NN k) (CC k)) := (World.cell?_of_block (a := ⟨bs, k, none⟩) (hsame bs (by omega) z16.1)).trans (C16.out k hlt)
                  have kd : wy.cell? ⟨bw, k, none⟩ = some (.slice (Bb k) (NN k) (d k)) := (World.cell?_of_block (a := ⟨bw, k, none⟩) (hsame bw (by omega) z16.2.1)).trans (W16.out k hlt)
                  have rb := (R16.out k hlt).same ⟨hsz, fun b hb' hf => hsame b (by omega) hb'⟩
                  have HEq := Lib.hid (samePeers_ok (AA k) (Bb k) (NN k) (CC k) (d k) (LL k) _ _ wy gk.row rb (by have := gk.n7; omega) (fun i hi => by have := gk.v64 i hi; omega))
                  have HGk := Lib.hid gk
                  have kw : IntKind.i64.wrap ((k : Int) + 1) = (k : Int) + 1 := IntWalk.i64_in _ (by omega)
                  have kl : (k : Int) < 3 := by omega
                  have HSa := Lib.hid hsame
                  have HSz := Lib.hid hsz
                  have HBe := Lib.hid bel
                  have hw2 : w.heap.size ≤ lo k := by
                    have h1 := HLo.out.2.2 0 k (by omega) (by omega)
                    have h2 := HLo.out.1
                    have := B2.out.size
                    omega
                  have HW2 := Lib.hid hw2
                  have HSp := Lib.hid (fun w' (h : Below wy.heap.size wy w') => (show Calls Try.prog 46 #[.slice (AA k) (NN k) (CC k)] w' fun e w2' => (∃ v, e = .returned v) ∧ Only (lo k) (lo (k + 1)) w' w2' by
                    have gk' := HGk.out.same h.size (fun b _ _ hb' => h.block b hb')
                    obtain ⟨w0', xs', h1, h2, h3, h4, h5⟩ := gk'.ex
                    refine (spoilt_ok (AA k) (NN k) (CC k) (lo k) (LL k) xs' w0' w' h1 h2 h5 h3).mono fun e w2' ⟨hv', ho⟩ => ⟨hv', ho.os, ho.tape, ho.output, ho.size, fun b h1 h2 => ho.block b h1 (fun e => h2 (by omega))⟩))
                  obtain ⟨Ak, hAk⟩ : ∃ q, AA k = q := ⟨_, rfl⟩
                  obtain ⟨Nk, hNk⟩ : ∃ q, NN k = q := ⟨_, rfl⟩
                  obtain ⟨Ck, hCk⟩ : ∃ q, CC k = q := ⟨_, rfl⟩
                  obtain ⟨Bk, hBk⟩ : ∃ q, Bb k = q := ⟨_, rfl⟩
                  obtain ⟨dk, hdk⟩ : ∃ q, d k = q := ⟨_, rfl⟩
                  rw [hAk, hNk, hCk] at kc HSp
                  rw [hBk, hNk, hdk] at kd
                  rw [hAk, hNk, hCk, hBk, hdk] at HEq
                  clear gk rb hsame hsz bel hAk hNk hCk hBk hdk z16 hw2
                  go_wp2_with fail
                  refine HEq.out.mono ?_
                  rintro e w17 ⟨rfl, hb17⟩
                  have B17 := Lib.hid (HBe.out.trans (hb17.mono HBe.out.size))
                  have HS17 := Lib.hid (HSp.out w17 hb17)
                  have K17 := Lib.hid hb17
                  clear hb17
                  go_wp2_with fail
                  refine HS17.out.mono ?_
                  rintro e w18 ⟨⟨v18, rfl⟩, on18⟩
                  have S18 := Lib.hid (show ∀ b, lo (k + 1) ≤ b → b < w16.heap.size → w18.heap[b]? = w16.heap[b]? from fun b h1 h2 => by
                    have hl : lo k ≤ lo (k + 1) := HLo.out.2.2 k (k + 1) (by omega) (by omega)
                    have e1 := HSa.out b (by omega) h2
                    have e2 := K17.out.block b (by have := HSz.out; omega)
                    rw [on18.block b (by have := HSz.out; have := K17.out.size; omega) (fun e => by omega), e2, e1])
                  have B18 := Lib.hid (on18.toBelow B17.out HW2.out B17.out.size)
                  have Z18 := Lib.hid (show w16.heap.size ≤ w18.heap.size from Nat.le_trans HSz.out (Nat.le_trans K17.out.size on18.size))
                  clear on18
                  go_wp2_with fail
                  go_roundw
                  case rel => exact ⟨k + 1, by omega, by go_num, S18.out, Z18.out, B18.out⟩
                  case measure => simp [intOf]; omega
                · obtain rfl : k = 3 := by omega
                  have HBe := Lib.hid bel
                  clear hsame hsz bel
                  go_wp2_with fail
                  go_ret
                  exact ⟨rfl, HBe.out⟩
end Go.Proofs.Ytpomdnglknbanaa
