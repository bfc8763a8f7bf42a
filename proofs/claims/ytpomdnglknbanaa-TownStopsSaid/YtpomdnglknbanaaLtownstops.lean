import Derived.Test.YtpomdnglknbanaaTn
import Derived.Test.YtpomdnglknbanaaLs
import Derived.Deep.DeepCutAuto
set_option linter.unusedSimpArgs false
set_option linter.unusedVariables false
namespace Go.Proofs.Ytpomdnglknbanaa
open Go Go.RowKit
/-- A town of two, d: who is stopped; what node 0 heard of the other came in the first 570 ticks. -/
structure StopT (E T : Int) (d : Nat → Bool) (S : TSt) : Prop where
  tok : TOK 2 (fun _ => E) T S
  mute : Mute S
  dead : S.dead = d
  least : (S.nd 0).least ≤ 20
  vals : ∀ v ∈ (prT (S.nd 0) (nmT 1)).vals, v ≤ 570
  last : (prT (S.nd 0) (nmT 1)).last ≤ 570
def noD : Nat → Bool := fun _ => false
def oneD : Nat → Bool := fun j => if j = 1 then true else false
theorem stopT_start {E L : Int} (hE : 1 ≤ E ∧ E ≤ 50) (hL : 1 ≤ L ∧ L ≤ 20) : StopT E 0 noD (twoS E E 4 L) := by
  have h := twoT_start (E := E) (L := L) hE (by omega)
  have hk : has ((twoS E E 4 L).nd 0).peers (nmT 1) = true := h.tok.knows 0 1 (by omega) (by omega)
  have hp : (prT ((twoS E E 4 L).nd 0) (nmT 1)) ∈ wpP (twoC E E 4 L) 0 2 := by
    have := (prT_mem hk).1
    unfold twoS at this ⊢
    rw [stN_nd _ (by omega)] at this ⊢
    exact this
  obtain ⟨_, h2, h3, c, _, _, _, h4⟩ := wpP_all hp
  refine ⟨h.tok, h.mute, rfl, ?_, fun v hv => ?_, by rw [h3]; omega⟩
  · unfold twoS
    rw [stN_nd _ (by omega)]
    show (twoC E E 4 L 0).least ≤ 20
    exact hL.2
  · rw [h4] at hv
    have hv : v = (twoC E E 4 L c).every := by simpa using hv
    rw [hv]
    unfold twoC
    split
    · show E ≤ 570; omega
    · show E ≤ 570; omega
section
variable {E T g : Int} {d : Nat → Bool} {S : TSt}
theorem StopT.later (h : StopT E T d S) {T' : Int} (hT : T ≤ T') : StopT E T' d S := ⟨h.tok.later hT, h.mute, h.dead, h.least, h.vals, h.last⟩
theorem StopT.tick (h : StopT E T d S) (hg : 1 ≤ g ∧ g ≤ 1000) (hT : T + g ≤ 1073741824) (hw : S.way.length + sumM S g 2 ≤ 1000) : StopT E (T + g) d (twS S g 2) ∧ twN S g 2 = [] := by
  obtain ⟨m1, m2⟩ := h.mute.tick (g := g) 2
  have e : prT ((twS S g 2).nd 0) (nmT 1) = prT (S.nd 0) (nmT 1) := by unfold prT; rw [twS_nd (by omega), tk_peers]
  refine ⟨⟨h.tok.tick hg hT hw, m1, h.dead, ?_, by rw [e]; exact h.vals, by rw [e]; exact h.last⟩, m2⟩
  rw [twS_nd (by omega)]
  cases hd : S.dead 0 with
  | true => rw [tk_dead hd]; exact h.least
  | false => rw [tk_live hd]; exact h.least
theorem StopT.bring (h : StopT E T d S) (hT : T ≤ 570) {j : Nat} {q : Int} (hj : j < 2) (hq : 1 ≤ q ∧ q < 2147483648) (hs : q ≤ (S.nd j).seq) : StopT E T d (setN S 0 (hearF (S.nd 0) (nmT j) q).1) := by
  have hn := h.tok.now 0 (by omega)
  have hk : has (S.nd 0).peers (nmT 1) = true := h.tok.knows 0 1 (by omega) (by omega)
  have pl : 0 ≤ (prT (S.nd 0) (nmT 1)).last := ((h.tok.tn 0 (by omega)).ok.at (has_lt hk)).1.last.1
  refine ⟨h.tok.bring (by omega) hj hq hs, h.mute.bring 0 j, h.dead, by rw [setN_at, hearF_same.2.2.2.2.2]; exact h.least, ?_, ?_⟩
  all_goals
    rw [setN_at]
    rcases (show j = 0 ∨ j = 1 by omega) with rfl | rfl
  · have k0 : has (S.nd 0).peers (nmT 0) = false := h.tok.knows 0 0 (by omega) (by omega)
    rw [hearF_no k0]; exact h.vals
  · rw [prT_hear hk hk, if_pos rfl]
    unfold heardP
    split
    · show ∀ v ∈ (if ((prT (S.nd 0) (nmT 1)).vals.length : Int) = (prT (S.nd 0) (nmT 1)).cap then (prT (S.nd 0) (nmT 1)).vals.drop 1 else (prT (S.nd 0) (nmT 1)).vals) ++ [min ((S.nd 0).now - (prT (S.nd 0) (nmT 1)).last) 16777216], v ≤ 570
      intro v hv
      rcases List.mem_append.1 hv with hv | hv
      · split at hv
        · exact h.vals v (List.mem_of_mem_drop hv)
        · exact h.vals v hv
      · have hv : v = min ((S.nd 0).now - (prT (S.nd 0) (nmT 1)).last) 16777216 := by simpa using hv
        omega
    · exact h.vals
  · have k0 : has (S.nd 0).peers (nmT 0) = false := h.tok.knows 0 0 (by omega) (by omega)
    rw [hearF_no k0]; exact h.last
  · rw [prT_hear hk hk, if_pos rfl]
    unfold heardP
    split
    · show (S.nd 0).now ≤ 570; omega
    · exact h.last
theorem StopT.stop (h : StopT E T noD S) : StopT E T oneD (stopN S 1) := ⟨h.tok.stop 1, h.mute, by show (fun j => if j = 1 then true else S.dead j) = _; rw [h.dead]; rfl, h.least, h.vals, h.last⟩
theorem StopT.lose (h : StopT E T d S) (i : Nat) : StopT E T d (wayN S (S.way.eraseIdx i)) := ⟨h.tok.lose (fun x hx => (List.eraseIdx_sublist _ _).mem hx) (List.eraseIdx_sublist _ _).length_le, h.mute, h.dead, h.least, h.vals, h.last⟩
/-- He is suspected at last. -/
theorem StopT.high (h : StopT E T d S) (hn : 18810 ≤ (S.nd 0).now - (prT (S.nd 0) (nmT 1)).last) {theta : Int} (ht : 0 ≤ theta ∧ theta ≤ 10) : theta ≤ levN (S.nd 0) (nmT 1) :=
  lev_high (V := 570) (h := 5) (h.tok.tn 0 (by omega)).ok (h.tok.knows 0 1 (by omega) (by omega)) h.vals (by have := h.least; omega) (by omega) (by omega)
end
/-- How many texts are under way, read of the memory. -/
def wayLen (w : World) (t : Nat) : Nat := match w.cell? ⟨t, 3, none⟩ with
  | some (.slice _ n _) => n
  | _ => 0
theorem TRep.wayLen {w : World} {t : Nat} {S : TSt} {f : Nat → Prop} (h : TRep w t S f) : wayLen w t = S.way.length := by
  obtain ⟨c, ga, gn, gd, ca, cn, cd, wv, bs, h⟩ := h
  obtain ⟨_, _, _, k3, _⟩ := h.cells
  obtain ⟨A, cw, rfl, _, _, _⟩ := own_form h.way
  unfold Go.Proofs.Ytpomdnglknbanaa.wayLen
  rw [k3]
section
variable {E T g : Int} {d : Nat → Bool} {S : TSt}
/-- Behind a tick a town in which 1 is stopped, and nothing was under way, has only what 0 sent. -/
theorem StopT.sent (h : StopT E T oneD S) (hw : S.way = []) : ∀ x, x ∈ (twS S g 2).way → ∃ q : Nat, x = mkB (encL (byts nA) 0 q) := by
  intro x hx
  have hx : x ∈ S.way ++ (List.range 2).flatMap (txN S g) := hx
  rw [hw, List.nil_append] at hx
  obtain ⟨j, hj, hx⟩ := List.mem_flatMap.1 hx
  have hj := List.mem_range.1 hj
  rcases (show j = 0 ∨ j = 1 by omega) with rfl | rfl
  · unfold txN at hx
    rw [show S.dead 0 = false by rw [h.dead]; rfl] at hx
    have hx : x ∈ sentB (S.nd 0).id 0 ((S.nd 0).now / (S.nd 0).every).toNat (mT (S.nd 0) g) := hx
    obtain ⟨k, hk, rfl⟩ := List.mem_map.1 hx
    exact ⟨_, by rw [h.tok.id 0 (by omega)]; rfl⟩
  · unfold txN at hx
    rw [if_pos (show S.dead 1 = true by rw [h.dead]; rfl)] at hx
    cases hx
theorem StopT.bok (h : StopT E T d S) (hT : T ≤ 1073741824) (hx : ∀ x, x ∈ S.way → ∃ q : Nat, x = mkB (encL (byts nA) 0 q)) : ∀ x, x ∈ S.way → ∃ q : Nat, x = mkB (encL (byts nA) 0 q) ∧ BOK (byts nA) 0 q := by
  intro x hm
  obtain ⟨j, q, hj, h1, h2, h3⟩ := h.tok.way x hm
  obtain ⟨q', hq'⟩ := hx x hm
  have b0 := (h.tok.tn j hj).ok.seq
  have b1 := (h.tok.tn j hj).ok.now
  have bk : BOK (byts (nmT j)) 0 q.toNat := ⟨nmT_ok j, by omega, by omega, by omega⟩
  refine ⟨q.toNat, ?_, nA_ok, bk.2⟩
  rw [h3]
  rcases (show j = 0 ∨ j = 1 by omega) with rfl | rfl
  · rfl
  · exfalso
    have hb : byts (mkB (encL (byts nB) 0 q.toNat)) = byts (mkB (encL (byts nA) 0 q')) := by rw [← hq', h3]; rfl
    rw [byts_mkB (encL_bytes nB_ok), byts_mkB (encL_bytes nA_ok)] at hb
    have e2 : (encL (byts nB) 0 q.toNat).getD 2 0 = 98 := rfl
    have e3 : (encL (byts nA) 0 q').getD 2 0 = 97 := rfl
    rw [hb, e3] at e2
    omega
end
set_option maxRecDepth 100000 in
set_option maxHeartbeats 16000000 in
theorem townStops_walk (e0 l0 h0 : Int) (a : Option Addr) (len cap : Nat) (Z : List (List Int)) (w : World) (_ : (Lit.int .i64 e0).wf = true) (_ : (Lit.int .i64 l0).wf = true) (_ : (Lit.int .i64 h0).wf = true) (hr : IsRows w a len Z) (hc : len ≤ cap ∧ cap ≤ maxLen) :
    Calls Try.prog 21 #[.int .i64 e0, .int .i64 l0, .int .i64 h0, .slice a len cap] w fun e w' => e = .returned (.bool true) ∧ Below w.heap.size w w' := by
  obtain ⟨hcp, hmx⟩ := hc
  unfold maxLen at hmx
  obtain ⟨n, hn⟩ : ∃ n : Nat, min len 30 = n := ⟨_, rfl⟩
  have hmin : min (len : Int) 30 = (n : Int) := by omega
  have hnl : n ≤ len := by omega
  have nl' : (n : Int) ≤ len := by omega
  have nc' : (n : Int) ≤ cap := by omega
  have hn30 : n ≤ 30 := by omega
  obtain ⟨E, hE⟩ : ∃ E, within e0 20 = E - 1 := ⟨within e0 20 + 1, by omega⟩
  obtain ⟨L, hL⟩ : ∃ L, within l0 20 = L - 1 := ⟨within l0 20 + 1, by omega⟩
  have b1 := within_bd e0 (n := 20) (by omega)
  have b2 := within_bd l0 (n := 20) (by omega)
  have b3 := within_bd h0 (n := 10) (by omega)
  have EB : 1 ≤ E ∧ E ≤ 20 := by omega
  obtain ⟨Th', hTh'⟩ : ∃ x, within h0 10 = x := ⟨_, rfl⟩
  obtain ⟨Th, hTh⟩ : ∃ x, 1 + Th' = x := ⟨_, rfl⟩
  have TB : 1 ≤ Th ∧ Th ≤ 10 := by omega
  have vT : IntKind.i64.wrap (1 + Th') = Th := by rw [hTh]; exact IntWalk.i64_in _ (by omega)
  have HTwo := Lib.hid (fun w' => two_ok e0 l0 E L w' hE hL)
  have HS0 := Lib.hid (stopT_start (E := E) (L := L) (by omega) (by omega))
  have HB := Lib.hid (fun w' => tbegun2_ok w')
  obtain ⟨E', hE'⟩ : ∃ x, E - 1 = x := ⟨_, rfl⟩
  rw [hE'] at hE
  obtain ⟨X1, hX1⟩ : ∃ x, 60 * E' = x := ⟨_, rfl⟩
  have v1 : IntKind.i64.wrap (60 * E') = X1 := by rw [hX1]; exact IntWalk.i64_in _ (by omega)
  obtain ⟨X2, hX2⟩ : ∃ x, 60 + X1 = x := ⟨_, rfl⟩
  have v2 : IntKind.i64.wrap (60 + X1) = X2 := by rw [hX2]; exact IntWalk.i64_in _ (by omega)
  obtain ⟨G, hG⟩ : ∃ x, min (1000 : Int) X2 = x := ⟨_, rfl⟩
  have GB : 60 ≤ G ∧ G ≤ 1000 ∧ G ≤ 60 * E := by omega
  have GE : G / E < 64 := by
    have : G / E ≤ 60 * E / E := Int.ediv_le_ediv (by omega) GB.2.2
    rw [Int.mul_ediv_cancel _ (show E ≠ 0 by omega)] at this
    omega
  have HGE := Lib.hid GE
  have HE := Lib.hid hE
  have HTh := Lib.hid hTh'
  have HR := Lib.hid hr
  clear hr hn hE hL hE' hX1 hX2 hTh hTh' b1 b2 b3 GE
  go_enter Try.func21, Try.ntmps21
  go_wp2_with fail
  refine (HB.out w).mono ?_
  rintro e w1 ⟨rfl, hb1⟩
  have HB1 := Lib.hid hb1
  have z1 := hb1.size
  clear hb1
  go_wp2_with fail
  refine (HTwo.out w1).mono ?_
  rintro e w2 ⟨t, f0, rfl, rep2, hf2, hb2⟩
  have R2 := Lib.hid rep2
  have HF2 := Lib.hid (fun x hx => Nat.le_trans z1 (hf2 x hx))
  have HB2 := Lib.hid (HB1.out.trans (hb2.mono z1))
  clear rep2 hf2 hb2
  go_wp2_with fail
  go_loopw [33] (fun i wr => ∃ (k : Nat) (S : TSt) (f : Nat → Prop), k ≤ n ∧ i = .int .i64 k ∧ TRep wr t S f ∧ StopT E (19 * k) noD S ∧ (∀ x, f x → w.heap.size ≤ x) ∧ Below w.heap.size w wr) (fun i _ => n - (intOf i).toNat)
  case atStart => exact ⟨0, _, f0, Nat.zero_le _, rfl, R2.out, HS0.out, HF2.out, HB2.out⟩
  case round =>
    obtain ⟨wx, rfl⟩ : ∃ z : World, z = wr := ⟨_, rfl⟩
    clear R2 HF2 HB2 HS0 HTwo HB
    obtain ⟨k, S, f, hk, rfl, hrep, hok, hf, bel⟩ := hrel
    have sz0 := bel.size
    by_cases hlt : k < n
    · obtain ⟨rb, off, A, C, rfl, rc, hin⟩ := rows_at HR.out (show k < len by omega) bel
      obtain ⟨l, hl⟩ : ∃ l, Z.getD k [] = l := ⟨_, rfl⟩
      rw [hl] at rc hin
      obtain ⟨m, hm⟩ : ∃ m, l.length = m := ⟨_, rfl⟩
      rw [hm] at rc hin
      have kw : IntKind.i64.wrap ((k : Int) + 1) = (k : Int) + 1 := IntWalk.i64_in _ (by omega)
      have kl : (k : Int) < n := by omega
      have HOk := Lib.hid hok
      have HRep := Lib.hid hrep
      have HF := Lib.hid hf
      have HBe := Lib.hid bel
      have HIn := Lib.hid hin
      clear hl hm hin hok hrep hf bel
      by_cases hm2 : m < 2
      · have hm2' : (m : Int) < 2 := by omega
        go_wp2_with fail
        go_roundw
        case rel => exact ⟨k + 1, S, f, by omega, by go_num, HRep.out, HOk.out.later (by omega), HF.out, HBe.out⟩
        case measure => simp [intOf]; omega
      · have hm2' : ¬ (m : Int) < 2 := by omega
        have hm0 : (0 : Int) < m := by omega
        have hm1 : (1 : Int) < m := by omega
        obtain ⟨b2, o2, rfl, hb2, hc2⟩ := HIn.out.1.at (show 0 < m by omega)
        obtain ⟨x0, hx0⟩ : ∃ x, l.getD 0 0 = x := ⟨_, rfl⟩
        obtain ⟨x1, hx1⟩ : ∃ x, l.getD 1 0 = x := ⟨_, rfl⟩
        have c0 := hc2 0 (by omega)
        have c1 := hc2 1 (by omega)
        rw [hx0, Nat.add_zero] at c0
        rw [hx1] at c1
        have d0 := within_bd x0 (n := 2) (by omega)
        obtain ⟨a0, ha0⟩ : ∃ y, within x0 2 = y := ⟨_, rfl⟩
        rw [ha0] at d0
        have HA0 := Lib.hid ha0
        clear hc2 hx0 hx1 ha0
        go_wp2_with fail
        refine (within_any x0 2 a0 _ (by omega) (by omega) HA0.out).mono ?_
        rintro e w' ⟨rfl, rfl⟩
        by_cases hz : a0 = 0
        · subst hz
          clear d0
          obtain ⟨g', hg'⟩ : ∃ g', within x1 19 = g' := ⟨_, rfl⟩
          have d1 := within_bd x1 (n := 19) (by omega)
          rw [hg'] at d1
          obtain ⟨g, hg⟩ : ∃ g, 1 + g' = g := ⟨_, rfl⟩
          have gb : 1 ≤ g ∧ g ≤ 19 := by omega
          have vg : IntKind.i64.wrap (1 + g') = g := by rw [hg]; exact IntWalk.i64_in _ (by omega)
          have gE := seq_le (n := g) (E := E) (by omega) EB.1
          have tk1 := HOk.out.tok.tickOK (g := g) (by omega) (by omega) (fun i hi => by show g / E < 64; omega)
          have HT := Lib.hid (fun w' (h : TRep w' t S f) => ttick_ok w' h tk1)
          rw [HOk.out.tok.sn] at HT
          have HTk := Lib.hid (fun hw => (HOk.out.tick (g := g) (by omega) (by omega) hw).1)
          have HG := Lib.hid hg'
          have HGb := Lib.hid gb
          clear hg' hg tk1 gE
          go_wp2_with fail
          refine (within_any x1 19 g' _ (by omega) (by omega) HG.out).mono ?_
          rintro e w' ⟨rfl, rfl⟩
          go_wp2_with fail
          refine (HT.out _ HRep.out).mono ?_
          rintro e w4 (⟨_, rfl, hb4⟩ | ⟨hle, A4, c4, f4, rfl, _, h4, hf4, k4⟩)
          · have R4 := Lib.hid (HRep.out.below hb4)
            have B4 := Lib.hid (HBe.out.trans (hb4.mono sz0))
            clear hb4
            go_wp2_with fail
            go_roundw
            case rel => exact ⟨k + 1, S, f, by omega, by go_num, R4.out, HOk.out.later (by omega), HF.out, B4.out⟩
            case measure => simp [intOf]; omega
          · have R4 := Lib.hid h4
            have B4 := Lib.hid (HBe.out.trans (k4.below sz0 HF.out))
            have F4 := Lib.hid (fun x hx => (hf4 x hx).elim (HF.out x) (fun h => Nat.le_trans sz0 h))
            have O4 := Lib.hid (HTk.out hle)
            clear h4 hf4 k4 hle
            go_wp2_with fail
            go_roundw
            case rel => exact ⟨k + 1, _, f4, by omega, by go_num, R4.out, O4.out.later (by have := HGb.out; omega), F4.out, B4.out⟩
            case measure => simp [intOf]; omega
        have hz' : (a0 == 0) = false := by simp [hz]
        obtain ⟨y, hy⟩ : ∃ y, S.way.length = y := ⟨_, rfl⟩
        have hy1000 := HOk.out.tok.len
        have HWy := Lib.hid (fun w' (h : TRep w' t S f) => tway_ok w' h (by omega))
        rw [hy] at HWy hy1000
        have HY := Lib.hid hy
        have HC := Lib.hid c1
        clear hy d0 c1 c0
        go_wp2_with fail
        refine (HWy.out _ HRep.out).mono ?_
        rintro e w3 ⟨A3, c3, rfl, _, hb3⟩
        have R3 := Lib.hid (HRep.out.below hb3)
        have B3 := Lib.hid (HBe.out.trans (hb3.mono sz0))
        have c1 := (hb3.cell (p := ⟨b2, o2 + 1, none⟩) hb2).trans HC.out
        clear hb3
        by_cases hy0 : y = 0
        · subst hy0
          go_wp2_with fail
          go_roundw
          case rel => exact ⟨k + 1, S, f, by omega, by go_num, R3.out, HOk.out.later (by omega), HF.out, B3.out⟩
          case measure => simp [intOf]; omega
        have hy' : (0 : Int) < (y : Int) := by omega
        have d1 := within_bd x1 (n := y) (by omega)
        obtain ⟨i, hi⟩ : ∃ i : Nat, within x1 y = i := ⟨(within x1 y).toNat, by omega⟩
        obtain ⟨j, q, hj, q1, q2, q3, q4⟩ := HOk.out.tok.text (by omega) (i := i) (by rw [HY.out]; omega)
        have tw1 := HOk.out.bring (by omega) hj ⟨q1, q2⟩ q3
        have HB1 := Lib.hid (fun w' (h : TRep w' t S f) => tbring_ok (i := i) (u := 0) w' h (by rw [HY.out]; omega) (by rw [HOk.out.tok.sn]; omega) (by rw [HOk.out.dead]; rfl) (HOk.out.tok.tn 0 (by omega)).ok (nmT_ok j) ⟨q1, q2⟩ q4)
        have O2 := Lib.hid tw1
        have HI := Lib.hid hi
        clear hi d1 tw1 q1 q2 q3 q4 hj
        go_wp2_with fail
        refine (within_any x1 y i _ (by omega) (by omega) HI.out).mono ?_
        rintro e w' ⟨rfl, rfl⟩
        go_wp2_with fail
        refine (HB1.out _ R3.out).mono ?_
        rintro e w4 ⟨A4, c4, e4, f4, rfl, h4, hf4, k4, _⟩
        have R4 := Lib.hid h4
        have B4 := Lib.hid (B3.out.trans (k4.below B3.out.size HF.out))
        have F4 := Lib.hid (fun x hx => (hf4 x hx).elim (HF.out x) (fun h => Nat.le_trans B3.out.size h))
        clear h4 hf4 k4
        go_wp2_with fail
        go_roundw
        case rel => exact ⟨k + 1, _, f4, by omega, by go_num, R4.out, O2.out.later (by omega), F4.out, B4.out⟩
        case measure => simp [intOf]; omega
    · obtain rfl : n = k := by omega
      have hok2 := (hok.later (T' := 570) (by omega)).stop
      have HSt := Lib.hid (fun w' (h : TRep w' t S f) => tstop_ok (i := 1) w' h (by rw [hok.tok.sn]; omega) (by rw [hok.dead]; rfl))
      obtain ⟨S1, hS1⟩ : ∃ x, stopN S 1 = x := ⟨_, rfl⟩
      rw [hS1] at HSt hok2
      obtain ⟨y, hy⟩ : ∃ y, S1.way.length = y := ⟨_, rfl⟩
      have hy1000 := hok2.tok.len
      rw [hy] at hy1000
      have HWy := Lib.hid (fun w' (h : TRep w' t S1 f) => tway_ok w' h (by omega))
      rw [hy] at HWy
      have HOk := Lib.hid (And.intro hok2 hy)
      have HRep := Lib.hid hrep
      have HF := Lib.hid hf
      have HBe := Lib.hid bel
      clear hok hok2 hrep hf bel hS1 hy
      go_wp2_with fail
      refine (HSt.out _ HRep.out).mono ?_
      rintro e w3 ⟨rfl, h3, k3⟩
      have R3 := Lib.hid h3
      have B3 := Lib.hid (HBe.out.trans (k3.below sz0 HF.out))
      clear h3 k3
      go_wp2_with fail
      refine (HWy.out _ R3.out).mono ?_
      rintro e w4 ⟨A4, c4, rfl, _, hb4⟩
      have R4 := Lib.hid (R3.out.below hb4)
      have B4 := Lib.hid (B3.out.trans (hb4.mono B3.out.size))
      clear hb4
      go_wp2_with fail
      go_loopw [71] (fun i wr => ∃ (k : Nat) (S : TSt) (f : Nat → Prop), k ≤ y ∧ i = .int .i64 k ∧ TRep wr t S f ∧ (StopT E 570 oneD S ∧ S.way.length = y) ∧ (∀ x, f x → w.heap.size ≤ x) ∧ Below w.heap.size w wr) (fun i _ => y - (intOf i).toNat)
      case atStart => exact ⟨0, _, f, Nat.zero_le _, rfl, R4.out, HOk.out, HF.out, B4.out⟩
      case round =>
        obtain ⟨wx2, rfl⟩ : ∃ z : World, z = wr := ⟨_, rfl⟩
        clear R4 B4 R3 B3 HOk HF HRep HBe HWy HSt
        obtain ⟨k, S2, f2, hk, rfl, hrep, ⟨hok, hwy⟩, hf, bel⟩ := hrel
        have szx := bel.size
        by_cases hlt : k < y
        · have kw : IntKind.i64.wrap ((k : Int) + 1) = (k : Int) + 1 := IntWalk.i64_in _ (by omega)
          have kl : (k : Int) < y := by omega
          obtain ⟨j, q, hj, q1, q2, q3, q4⟩ := hok.tok.text (by omega) (i := k) (by rw [hwy]; omega)
          have tw1 := hok.bring (by omega) hj ⟨q1, q2⟩ q3
          have HB1 := Lib.hid (fun w' (h : TRep w' t S2 f2) => tbring_ok (i := k) (u := 0) w' h (by rw [hwy]; omega) (by rw [hok.tok.sn]; omega) (by rw [hok.dead]; rfl) (hok.tok.tn 0 (by omega)).ok (nmT_ok j) ⟨q1, q2⟩ q4)
          have O2 := Lib.hid (show _ ∧ (setN S2 0 (hearF (S2.nd 0) (nmT j) q).1).way.length = y from ⟨tw1, hwy⟩)
          have HRep := Lib.hid hrep
          have HF := Lib.hid hf
          have HBe := Lib.hid bel
          clear tw1 q1 q2 q3 q4 hj hok hwy hrep hf bel
          go_wp2_with fail
          refine (HB1.out _ HRep.out).mono ?_
          rintro e w4 ⟨A5, c5, e4, f4, rfl, h4, hf4, k4, _⟩
          have R4 := Lib.hid h4
          have B4 := Lib.hid (HBe.out.trans (k4.below szx HF.out))
          have F4 := Lib.hid (fun x hx => (hf4 x hx).elim (HF.out x) (fun h => Nat.le_trans szx h))
          clear h4 hf4 k4
          go_wp2_with fail
          go_roundw
          case rel => exact ⟨k + 1, _, f4, by omega, by go_num, R4.out, O2.out, F4.out, B4.out⟩
          case measure => simp [intOf]; omega
        · obtain rfl : y = k := by omega
          have hel : 60 * ((0 : Nat) : Int) ≤ (S2.nd 0).now - (prT (S2.nd 0) (nmT 1)).last := by
            have hk : has (S2.nd 0).peers (nmT 1) = true := hok.tok.knows 0 1 (by omega) (by omega)
            have := ((hok.tok.tn 0 (by omega)).ok.at (has_lt hk)).2.2
            have e : prT (S2.nd 0) (nmT 1) = (S2.nd 0).peers.getD (pos (S2.nd 0).peers (nmT 1)) default := rfl
            rw [e]
            omega
          have HEl := Lib.hid hel
          have HOk := Lib.hid hok
          have HRep := Lib.hid hrep
          have HF := Lib.hid hf
          have HBe := Lib.hid bel
          clear hok hwy hel hrep hf bel
          go_wp2_with fail
          refine (within_any h0 10 Th' _ (by omega) (by omega) HTh.out).mono ?_
          rintro e w' ⟨rfl, rfl⟩
          go_wp2_with fail
          go_loopw [81] (fun i wr => ∃ (k : Nat) (S : TSt) (f : Nat → Prop), k ≤ 314 ∧ i = .int .i64 k ∧ TRep wr t S f ∧ StopT E (570 + 1000 * k) oneD S ∧ 60 * (k : Int) ≤ (S.nd 0).now - (prT (S.nd 0) (nmT 1)).last ∧ (∀ x, f x → w.heap.size ≤ x) ∧ Below w.heap.size w wr) (fun i _ => 400 - (intOf i).toNat)
          case atStart => exact ⟨0, _, f2, Nat.zero_le _, rfl, HRep.out, HOk.out, HEl.out, HF.out, HBe.out⟩
          case round =>
            obtain ⟨wx3, rfl⟩ : ∃ z : World, z = wr := ⟨_, rfl⟩
            clear HOk HRep HF HBe HEl
            obtain ⟨k, S, f, hk, rfl, hrep, hok, hel, hf, bel⟩ := hrel
            have szx3 := bel.size
            have k400 : (k : Int) < 400 := by omega
            have kw : IntKind.i64.wrap ((k : Int) + 1) = (k : Int) + 1 := IntWalk.i64_in _ (by omega)
            obtain ⟨vk, hvk⟩ : ∃ vk, levN (S.nd 0) nB = vk := ⟨_, rfl⟩
            have hhi : 314 ≤ k → Th ≤ vk := fun h => by
              rw [← hvk]
              exact hok.high (by omega) (by omega)
            have HLv := Lib.hid (fun w' (h : TRep w' t S f) => tlevel_ok (i := 0) w' nB h (by rw [hok.tok.sn]; omega) (by rw [hok.dead]; rfl) (hok.tok.tn 0 (by omega)).ok vk 0 hvk (by rw [show has (S.nd 0).peers nB = true from hok.tok.knows 0 1 (by omega) (by omega)]; rfl))
            have HEl := Lib.hid hel
            have HOk := Lib.hid hok
            have HRep := Lib.hid hrep
            have HF := Lib.hid hf
            have HBe := Lib.hid bel
            clear hvk hel hok hrep hf bel
            by_cases hge : Th ≤ vk
            · clear hhi
              go_wp2_with fail
              refine (HLv.out _ HRep.out).mono ?_
              rintro e w3 ⟨rfl, hb3⟩
              have B3 := Lib.hid (HBe.out.trans (hb3.mono szx3))
              clear hb3
              go_wp2_with fail
              go_ret
              exact ⟨rfl, B3.out⟩
            have k313 : k < 314 := by
              rcases Nat.lt_or_ge k 314 with h | h
              · exact h
              · exact absurd (hhi h) hge
            have hge' : decide (Th ≤ vk) = false := by simp; omega
            clear hhi hk
            go_wp2_with fail
            refine (HLv.out _ HRep.out).mono ?_
            rintro e w3 ⟨rfl, hb3⟩
            have R3 := Lib.hid (HRep.out.below hb3)
            have B3 := Lib.hid (HBe.out.trans (hb3.mono szx3))
            clear hb3
            go_wp2_with fail
            go_loopw [93] (fun _ wr => ∃ (S' : TSt) (f' : Nat → Prop), TRep wr t S' f' ∧ StopT E (570 + 1000 * k) oneD S' ∧ S'.nd = S.nd ∧ (∀ x, f' x → w.heap.size ≤ x) ∧ Below w.heap.size w wr) (fun _ wr => wayLen wr t)
            case atStart => exact ⟨S, f, R3.out, HOk.out, rfl, HF.out, B3.out⟩
            case round =>
              obtain ⟨wy, rfl⟩ : ∃ z : World, z = wr := ⟨_, rfl⟩
              clear R3 B3 HRep HLv HF HBe HOk
              obtain ⟨S1, f1, hrep, hok, hnd, hf, bel⟩ := hrel
              have szy := bel.size
              obtain ⟨y, hy⟩ : ∃ y, S1.way.length = y := ⟨_, rfl⟩
              have hy1000 := hok.tok.len
              have HWy := Lib.hid (fun w' (h : TRep w' t S1 f1) => tway_ok w' h (by omega))
              rw [hy] at HWy hy1000
              have HWl := Lib.hid (hrep.wayLen.trans hy)
              have HOk := Lib.hid hok
              have HNd := Lib.hid hnd
              have HRep := Lib.hid hrep
              have HF := Lib.hid hf
              have HBe := Lib.hid bel
              have HY := Lib.hid hy
              clear hok hnd hrep hf bel hy
              by_cases hy0 : y = 0
              · subst hy0
                have hnil : S1.way = [] := List.eq_nil_of_length_eq_zero HY.out
                have tk1 := HOk.out.tok.tickOK (g := G) (by omega) (by omega) (fun i hi => HGE.out)
                have hsm := sumM_bd tk1 2 (by rw [HOk.out.tok.sn]; omega)
                have hle : S1.way.length + sumM S1 G 2 ≤ 1000 := by rw [HY.out]; omega
                have HT := Lib.hid (fun w' (h : TRep w' t S1 f1) => ttick_ok w' h tk1)
                rw [HOk.out.tok.sn] at HT
                have o2 := (HOk.out.tick (g := G) (by omega) (by omega) hle).1.later (T' := 570 + 1000 * ((k + 1 : Nat) : Int)) (by omega)
                have hx := o2.bok (by omega) (HOk.out.sent (g := G) hnil)
                have hel2 : 60 * ((k + 1 : Nat) : Int) ≤ ((twS S1 G 2).nd 0).now - (prT ((twS S1 G 2).nd 0) (nmT 1)).last := by
                  have e1 : ((twS S1 G 2).nd 0).now = (S.nd 0).now + G := by
                    rw [twS_nd (by omega), tk_live (by rw [HOk.out.dead]; rfl), HNd.out]
                    rfl
                  have e2 : prT ((twS S1 G 2).nd 0) (nmT 1) = prT (S.nd 0) (nmT 1) := by unfold prT; rw [twS_nd (by omega), tk_peers, HNd.out]
                  have := HEl.out
                  rw [e1, e2]
                  omega
                obtain ⟨S2, hS2⟩ : ∃ x, twS S1 G 2 = x := ⟨_, rfl⟩
                rw [hS2] at HT o2 hx hel2
                obtain ⟨m, hm⟩ : ∃ m, S2.way.length = m := ⟨_, rfl⟩
                have hm1000 := o2.tok.len
                rw [hm] at hm1000
                have HW2 := Lib.hid (fun f' w' (h : TRep w' t S2 f') => tway_ok w' h (by omega))
                rw [hm] at HW2
                have HM := Lib.hid hm
                have HX := Lib.hid hx
                have HO2 := Lib.hid (And.intro o2 hel2)
                have HLe := Lib.hid hle
                clear tk1 hsm hle o2 hx hel2 hS2 hm hnil
                go_wp2_with fail
                refine (HWy.out _ HRep.out).mono ?_
                rintro e w4 ⟨A4, c4, rfl, _, hb4⟩
                have R4 := Lib.hid (HRep.out.below hb4)
                have B4 := Lib.hid (HBe.out.trans (hb4.mono szy))
                clear hb4
                go_wp2_with fail
                refine (within_any e0 20 E' _ (by omega) (by omega) HE.out).mono ?_
                rintro e w' ⟨rfl, rfl⟩
                go_wp2_with fail
                refine (HT.out _ R4.out).mono ?_
                rintro e w5 (⟨h, _, _⟩ | ⟨_, A5, c5, f5, rfl, _, h5, hf5, k5⟩)
                · exact absurd h (by have := HLe.out; omega)
                have R5 := Lib.hid h5
                have B5 := Lib.hid (B4.out.trans (k5.below B4.out.size HF.out))
                have F5 := Lib.hid (fun x hx => (hf5 x hx).elim (HF.out x) (fun h => Nat.le_trans B4.out.size h))
                clear h5 hf5 k5
                go_wp2_with fail
                refine (HW2.out _ _ R5.out).mono ?_
                rintro e w6 ⟨A6, c6, rfl, own6, hb6⟩
                have TR := Lib.hid (trow_own own6)
                have R6 := Lib.hid (R5.out.below hb6)
                have B6 := Lib.hid (B5.out.trans (hb6.mono B5.out.size))
                clear hb6 own6
                go_wp2_with fail
                go_loopw [115] (fun i wr => ∃ j : Nat, j ≤ m ∧ i = .int .i64 j ∧ Below w6.heap.size w6 wr) (fun i _ => m - (intOf i).toNat)
                case atStart => exact ⟨0, Nat.zero_le _, rfl, Below.refl _ _⟩
                case round =>
                  obtain ⟨wz, rfl⟩ : ∃ z : World, z = wr := ⟨_, rfl⟩
                  obtain ⟨j, hj, rfl, bel⟩ := hrel
                  have szz := bel.size
                  by_cases hjm : j < m
                  · obtain ⟨tb, to', rfl, tl, tc⟩ := (TR.out.below bel).at hjm
                    obtain ⟨q, hq, hbk⟩ := HX.out _ (getD_mem (d := ⟨#[]⟩) (show j < S2.way.length by rw [HM.out]; exact hjm))
                    have HD := Lib.hid (fun w' => decode_enc nA 0 q w' hbk)
                    rw [← hq] at HD
                    obtain ⟨tx, htx⟩ : ∃ x, S2.way.getD j ⟨#[]⟩ = x := ⟨_, rfl⟩
                    rw [htx] at HD tc
                    unfold nA at HD
                    have jw : IntKind.i64.wrap ((j : Int) + 1) = (j : Int) + 1 := IntWalk.i64_in _ (by omega)
                    have jl : (j : Int) < m := by omega
                    have HBx := Lib.hid bel
                    have qa := alloc_cells
                    have qf := alloc_frozens
                    clear hq hbk htx bel
                    go_wp2_with fail
                    refine (HD.out _).mono ?_
                    rintro e w7 ⟨rfl, hb7⟩
                    have B7 := Lib.hid (HBx.out.trans (hb7.mono szz))
                    clear hb7
                    go_wp2_with fail
                    go_roundw
                    case rel => exact ⟨j + 1, by omega, by go_num, B7.out.alloc B7.out.size _⟩
                    case measure => simp [intOf]; omega
                  · obtain rfl : j = m := by omega
                    have R7 := Lib.hid (R6.out.below bel)
                    have B7 := Lib.hid (B6.out.trans (bel.mono B6.out.size))
                    clear bel
                    go_wp2_with fail
                    go_roundw
                    case rel => exact ⟨k + 1, S2, f5, by omega, by go_num, R7.out, HO2.out.1, HO2.out.2, F5.out, B7.out⟩
                    case measure => simp [intOf]; omega
              · have hy' : (0 : Int) < (y : Int) := by omega
                have HLo := Lib.hid (fun w' (h : TRep w' t S1 f1) => tlose_ok (i := 0) w' h (by rw [HY.out]; omega) (by rw [HY.out]; omega))
                have O4 := Lib.hid (HOk.out.lose 0)
                have hel4 : (S1.way.eraseIdx 0).length < y := by
                  rw [List.length_eraseIdx, if_pos (by rw [HY.out]; omega), HY.out]
                  omega
                have HEl4 := Lib.hid hel4
                clear hel4
                go_wp2_with fail
                refine (HWy.out _ HRep.out).mono ?_
                rintro e w4 ⟨A4, c4, rfl, _, hb4⟩
                have R4 := Lib.hid (HRep.out.below hb4)
                have B4 := Lib.hid (HBe.out.trans (hb4.mono szy))
                clear hb4
                go_wp2_with fail
                refine (HLo.out _ R4.out).mono ?_
                rintro e w5 ⟨rfl, ⟨f5, h5, hf5⟩, k5⟩
                have R5 := Lib.hid h5
                have B5 := Lib.hid (B4.out.trans (k5.below B4.out.size HF.out))
                have F5 := Lib.hid (fun x hx => HF.out x (hf5 x hx))
                clear h5 hf5 k5
                go_wp2_with fail
                go_roundw
                case rel => exact ⟨_, f5, R5.out, O4.out, HNd.out, F5.out, B5.out⟩
                case measure =>
                  have h1 := R5.out.wayLen
                  have h2 := HEl4.out
                  have h3 := HWl.out
                  show wayLen w5 t < wayLen wy t
                  rw [h1, h3]
                  exact h2
end Go.Proofs.Ytpomdnglknbanaa
