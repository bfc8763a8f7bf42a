import Derived.Test.YtpomdnglknbanaaTk
import Derived.Test.YtpomdnglknbanaaTm
import Derived.Test.YtpomdnglknbanaaLs
import Derived.Deep.DeepCutAuto
set_option linter.unusedSimpArgs false
set_option linter.unusedVariables false
namespace Go.Proofs.Ytpomdnglknbanaa
open Go Go.RowKit
theorem within_bel (k n x : Int) (w : World) (h : 0 < n) (h1 : n ≤ 9223372036854775807) (hx : within k n = x) : Calls Try.prog 28 #[.int .i64 k, .int .i64 n] w fun e w' => e = .returned (.int .i64 x) ∧ Below w.heap.size w w' := by
  refine (within_any k n x w h h1 hx).mono ?_
  rintro e w' ⟨rfl, rfl⟩
  exact ⟨rfl, Below.refl _ _⟩
def seenT (S : TSt) : Int := (prT (S.nd 0) (nmT 1)).seq + (prT (S.nd 1) (nmT 0)).seq
/-- How much was sent, how much was let through. -/
structure HeardT (E T sent heard : Int) (S : TSt) : Prop where
  two : TwoT E T S
  sent : sent = (S.nd 0).seq + (S.nd 1).seq
  pos : 0 ≤ heard
  heard : heard ≤ seenT S
section
variable {E T g sent heard : Int} {S : TSt}
theorem HeardT.done (h : HeardT E T sent heard S) : heard ≤ sent := by
  have h1 := (h.two.tok.peer 0 1 (by omega) (by omega) (by omega)).2.2
  have h2 := (h.two.tok.peer 1 0 (by omega) (by omega) (by omega)).2.2
  have h3 := h.heard
  have h4 := h.sent
  unfold seenT at h3
  omega
theorem HeardT.bd (h : HeardT E T sent heard S) : 0 ≤ sent ∧ sent ≤ 2 * T ∧ heard ≤ 2 * T := by
  have h0 := h.done
  have h1 := (h.two.tok.tn 0 (by omega)).ok.seq
  have h2 := (h.two.tok.tn 1 (by omega)).ok.seq
  have h3 := h.two.tok.now 0 (by omega)
  have h4 := h.two.tok.now 1 (by omega)
  have h5 := h.sent
  omega
theorem heardT_start {E L : Int} (hE : 1 ≤ E ∧ E ≤ 50) (hL : 1 ≤ L ∧ L ≤ 50) : HeardT E 0 0 0 (twoS E E 4 L) := by
  have h := twoT_start hE hL
  have h1 := (h.tok.peer 0 1 (by omega) (by omega) (by omega)).2.1
  have h2 := (h.tok.peer 1 0 (by omega) (by omega) (by omega)).2.1
  exact ⟨h, rfl, Int.le_refl _, by unfold seenT; omega⟩
theorem sent_one {j : Nat} (hd : S.dead j = false) (tn : TN (S.nd j)) (hg : 1 ≤ g) : ((txN S g j).length : Int) = (tkN S g j).seq - (S.nd j).seq := by
  have h1 := tn.seq_tick hg
  rw [tk_live hd, tn.seq] at *
  unfold txN
  rw [hd]
  show ((sentB _ _ _ _).length : Int) = ((S.nd j).now + g) / (S.nd j).every - _
  rw [sentB_len]
  unfold mT
  omega
theorem HeardT.tick (h : HeardT E T sent heard S) (hE : 1 ≤ E) (hg : 1 ≤ g ∧ g ≤ 60) (hT : T ≤ 1000000) (hw : S.way.length + sumM S g 2 ≤ 1000) : HeardT E (T + g) (sent + (sumM S g 2 : Nat)) heard (twS S g 2) := by
  have d : ∀ j, S.dead j = false := fun j => by rw [h.two.dead]
  have s0 := sent_one (d 0) (h.two.tok.tn 0 (by omega)) hg.1
  have s1 := sent_one (d 1) (h.two.tok.tn 1 (by omega)) hg.1
  have hs : sumM S g 2 = (txN S g 0).length + (txN S g 1).length := by
    unfold sumM
    rw [show List.range 2 = [0, 1] from rfl]
    simp
  refine ⟨((h.two.tick hE hg hT).2.2 hw).1, ?_, h.pos, ?_⟩
  · rw [twS_nd (by omega), twS_nd (by omega), h.sent, hs]
    omega
  · have e : seenT (twS S g 2) = seenT S := by
      unfold seenT prT
      rw [twS_nd (by omega), twS_nd (by omega), tk_peers, tk_peers]
    rw [e]; exact h.heard
theorem HeardT.lose (h : HeardT E T sent heard S) (i : Nat) : HeardT E T sent heard (wayN S (S.way.eraseIdx i)) :=
  ⟨h.two.lose (fun x hx => (List.eraseIdx_sublist _ _).mem hx) (List.eraseIdx_sublist _ _).length_le, h.sent, h.pos, h.heard⟩
theorem HeardT.later (h : HeardT E T sent heard S) {T' : Int} (hT : T ≤ T') : HeardT E T' sent heard S := ⟨h.two.later hT, h.sent, h.pos, h.heard⟩
theorem seq_hear {s : NSt} {id : ByteArray} {q : Int} (hh : has s.peers id = true) (hi : (prT s id).inc = 0) :
    (newB s id q = true ∧ (prT s id).seq + 1 ≤ (prT (hearF s id q).1 id).seq) ∨ (newB s id q = false ∧ (prT (hearF s id q).1 id).seq = (prT s id).seq) := by
  rw [prT_hear hh hh, if_pos rfl]
  have e := newB_iff (q := q) hi
  have e2 : newB s id q = newer (prT s id) 0 q := rfl
  cases hn : newB s id q with
  | true =>
    refine .inl ⟨rfl, ?_⟩
    rw [hn] at e e2
    have : (prT s id).seq < q := by simpa using e.symm
    unfold heardP
    rw [if_pos e2.symm]
    show (prT s id).seq + 1 ≤ q
    omega
  | false =>
    refine .inr ⟨rfl, ?_⟩
    rw [hn] at e2
    unfold heardP
    rw [if_neg (by rw [← e2]; simp)]
/-- Something is brought: it is let through, and there is more that was; or not, and there is as much. -/
theorem HeardT.bring (h : HeardT E T sent heard S) {u j : Nat} {q : Int} (hu : u < 2) (hj : j < 2) (hq : 1 ≤ q ∧ q < 2147483648) (hs : q ≤ (S.nd j).seq) :
    (has (S.nd u).peers (nmT j) = true ∧ newB (S.nd u) (nmT j) q = true ∧ HeardT E T sent (heard + 1) (setN S u (hearF (S.nd u) (nmT j) q).1)) ∨
    ((has (S.nd u).peers (nmT j) = false ∨ (has (S.nd u).peers (nmT j) = true ∧ newB (S.nd u) (nmT j) q = false)) ∧ HeardT E T sent heard (setN S u (hearF (S.nd u) (nmT j) q).1)) := by
  have two := h.two.bring hu hj hq hs
  have sq : sent = ((setN S u (hearF (S.nd u) (nmT j) q).1).nd 0).seq + ((setN S u (hearF (S.nd u) (nmT j) q).1).nd 1).seq := by rw [setN_seq, setN_seq]; exact h.sent
  have hk := h.two.tok.knows u j hu hj
  have hp := h.pos
  have hh := h.heard
  by_cases e : u = j
  · subst e
    rw [show decide (u ≠ u) = false by simp] at hk
    refine .inr ⟨.inl hk, two, sq, h.pos, ?_⟩
    have : seenT (setN S u (hearF (S.nd u) (nmT u) q).1) = seenT S := by
      rw [hearF_no hk]
      rcases (show u = 0 ∨ u = 1 by omega) with rfl | rfl
      · unfold seenT; rw [setN_at, setN_ne _ _ (by omega)]; rfl
      · unfold seenT; rw [setN_at, setN_ne _ _ (by omega)]; rfl
    rw [this]; exact hh
  · rw [show decide (u ≠ j) = true by simp [e]] at hk
    have hi := (h.two.tok.peer u j hu hj e).1
    have key : ∀ x, (prT (hearF (S.nd u) (nmT j) q).1 (nmT j)).seq = (prT (S.nd u) (nmT j)).seq + x → seenT (setN S u (hearF (S.nd u) (nmT j) q).1) = seenT S + x := fun x hx => by
      rcases (show u = 0 ∧ j = 1 ∨ u = 1 ∧ j = 0 by omega) with ⟨rfl, rfl⟩ | ⟨rfl, rfl⟩
      · unfold seenT; rw [setN_at, setN_ne _ _ (by omega), hx]; omega
      · unfold seenT; rw [setN_at, setN_ne _ _ (by omega), hx]; omega
    rcases seq_hear (q := q) hk hi with ⟨h1, h2⟩ | ⟨h1, h2⟩
    · refine .inl ⟨hk, h1, two, sq, by omega, ?_⟩
      rw [key ((prT (hearF (S.nd u) (nmT j) q).1 (nmT j)).seq - (prT (S.nd u) (nmT j)).seq) (by omega)]
      omega
    · refine .inr ⟨.inr ⟨hk, h1⟩, two, sq, h.pos, ?_⟩
      rw [key 0 (by omega)]
      omega
end
set_option maxRecDepth 100000 in
set_option maxHeartbeats 16000000 in
theorem townHeard_walk (e0 : Int) (a : Option Addr) (len cap : Nat) (Z : List (List Int)) (w : World) (_ : (Lit.int .i64 e0).wf = true) (hr : IsRows w a len Z) (hc : len ≤ cap ∧ cap ≤ maxLen) :
    Calls Try.prog 19 #[.int .i64 e0, .slice a len cap] w fun e w' => e = .returned (.bool true) ∧ Below w.heap.size w w' := by
  obtain ⟨hcp, hmx⟩ := hc
  unfold maxLen at hmx
  obtain ⟨n, hn⟩ : ∃ n : Nat, min len 100 = n := ⟨_, rfl⟩
  have hmin : min (len : Int) 100 = (n : Int) := by omega
  have hnl : n ≤ len := by omega
  have nl' : (n : Int) ≤ len := by omega
  have nc' : (n : Int) ≤ cap := by omega
  have hn100 : n ≤ 100 := by omega
  obtain ⟨E, hE⟩ : ∃ E, within e0 20 = E - 1 := ⟨within e0 20 + 1, by omega⟩
  have b1 := within_bd e0 (n := 20) (by omega)
  have E1 : 1 ≤ E := by omega
  have HTwo := Lib.hid (fun w' => two_ok e0 1 E 2 w' hE (by decide))
  have HS0 := Lib.hid (heardT_start (E := E) (L := 2) (by omega) (by omega))
  have HB := Lib.hid (fun w' => tbegun2_ok w')
  have HR := Lib.hid hr
  clear hr hn hE b1
  go_enter Try.func19, Try.ntmps19
  go_wp2_with fail
  refine (HB.out w).mono ?_
  rintro e w1 ⟨rfl, hb1⟩
  have HB1 := Lib.hid hb1
  have z1 := hb1.size
  clear hb1
  go_wp2_with fail
  refine (HTwo.out w1).mono ?_
  rintro e w2 ⟨t, f0, rfl, rep2, hf2, hb2⟩
  have R2 := Lib.hid rep2
  have HF2 := Lib.hid (fun x hx => Nat.le_trans z1 (hf2 x hx))
  have HB2 := Lib.hid (HB1.out.trans (hb2.mono z1))
  clear rep2 hf2 hb2
  go_wp2_with fail
  go_loopw [6, 7, 29] (fun s h i wr => ∃ (k : Nat) (S : TSt) (f : Nat → Prop) (sent heard : Int), k ≤ n ∧ s = .int .i64 sent ∧ h = .int .i64 heard ∧ i = .int .i64 k ∧ TRep wr t S f ∧ HeardT E (60 * k) sent heard S ∧ (∀ x, f x → w.heap.size ≤ x) ∧ Below w.heap.size w wr) (fun _ _ i _ => n - (intOf i).toNat)
  case atStart => exact ⟨0, _, f0, 0, 0, Nat.zero_le _, rfl, rfl, rfl, R2.out, HS0.out, HF2.out, HB2.out⟩
  case round =>
    obtain ⟨wx, rfl⟩ : ∃ z : World, z = wr := ⟨_, rfl⟩
    obtain ⟨k, S, f, sent, heard, hk, rfl, rfl, rfl, hrep, hok, hf, bel⟩ := hrel
    have sz0 := bel.size
    by_cases hlt : k < n
    · obtain ⟨rb, off, A, C, rfl, rc, hin⟩ := rows_at HR.out (show k < len by omega) bel
      obtain ⟨l, hl⟩ : ∃ l, Z.getD k [] = l := ⟨_, rfl⟩
      rw [hl] at rc hin
      obtain ⟨m, hm⟩ : ∃ m, l.length = m := ⟨_, rfl⟩
      rw [hm] at rc hin
      have kw : IntKind.i64.wrap ((k : Int) + 1) = (k : Int) + 1 := IntWalk.i64_in _ (by omega)
      have kl : (k : Int) < n := by omega
      have HBd := Lib.hid hok.bd
      have HOk := Lib.hid hok
      have HRep := Lib.hid hrep
      have HF := Lib.hid hf
      have HBe := Lib.hid bel
      have HIn := Lib.hid hin
      clear hl hm hin hok hrep hf bel
      by_cases hm2 : m < 2
      · have hm2' : (m : Int) < 2 := by omega
        go_wp2_with fail
        go_roundw
        case rel => exact ⟨k + 1, S, f, sent, heard, by omega, rfl, rfl, by go_num, HRep.out, HOk.out.later (by omega), HF.out, HBe.out⟩
        case measure => simp [intOf]; omega
      · have hm2' : ¬ (m : Int) < 2 := by omega
        have hm0 : (0 : Int) < m := by omega
        have hm1 : (1 : Int) < m := by omega
        obtain ⟨b2, o2, rfl, hb2, hc2⟩ := HIn.out.1.at (show 0 < m by omega)
        obtain ⟨x0, hx0⟩ : ∃ x, l.getD 0 0 = x := ⟨_, rfl⟩
        obtain ⟨x1, hx1⟩ : ∃ x, l.getD 1 0 = x := ⟨_, rfl⟩
        have cc0 := hc2 0 (by omega)
        have cc1 := hc2 1 (by omega)
        rw [hx0, Nat.add_zero] at cc0
        rw [hx1] at cc1
        have d0 := within_bd x0 (n := 4) (by omega)
        obtain ⟨a0, ha0⟩ : ∃ y, within x0 4 = y := ⟨_, rfl⟩
        rw [ha0] at d0
        obtain ⟨y, hy⟩ : ∃ y, S.way.length = y := ⟨_, rfl⟩
        have hy1000 := HOk.out.two.tok.len
        have HWy := Lib.hid (fun w' (h : TRep w' t S f) => tway_ok w' h (by omega))
        rw [hy] at HWy hy1000
        have HA0 := Lib.hid ha0
        have HY := Lib.hid hy
        have HC := Lib.hid (And.intro cc0 cc1)
        clear hc2 hx0 hx1 ha0 hy cc0 cc1
        go_wp2_with fail
        refine (HWy.out _ HRep.out).mono ?_
        rintro e w3 ⟨A3, c3, rfl, _, hb3⟩
        have R3 := Lib.hid (HRep.out.below hb3)
        have B3 := Lib.hid (HBe.out.trans (hb3.mono sz0))
        have c0 := (hb3.cell (p := ⟨b2, o2, none⟩) hb2).trans HC.out.1
        have c1 := (hb3.cell (p := ⟨b2, o2 + 1, none⟩) hb2).trans HC.out.2
        have hb23 : b2 < w3.heap.size := Nat.lt_of_lt_of_le hb2 hb3.size
        clear hb3
        go_wp2_with fail
        refine (within_any x0 4 a0 _ (by omega) (by omega) HA0.out).mono ?_
        rintro e w' ⟨rfl, rfl⟩
        by_cases hz : a0 = 0
        · subst hz
          clear d0
          obtain ⟨g', hg'⟩ : ∃ g', within x1 19 = g' := ⟨_, rfl⟩
          have d1 := within_bd x1 (n := 19) (by omega)
          rw [hg'] at d1
          obtain ⟨g, hg⟩ : ∃ g, 1 + g' = g := ⟨_, rfl⟩
          have gb : 1 ≤ g ∧ g ≤ 60 := by omega
          have vg : IntKind.i64.wrap (1 + g') = g := by rw [hg]; exact IntWalk.i64_in _ (by omega)
          obtain ⟨tk1, tk2, tk3⟩ := HOk.out.two.tick E1 gb (by omega)
          have HT := Lib.hid (fun w' (h : TRep w' t S f) => ttick_ok w' h tk1)
          rw [tk2] at HT
          have HTk := Lib.hid (fun hw => HOk.out.tick E1 gb (by omega) hw)
          have HW2 := Lib.hid (fun (hw : S.way.length + sumM S g 2 ≤ 1000) f' w' (h : TRep w' t (twS S g 2) f') => tway_ok w' h (by rw [sumM_way]; omega))
          rw [sumM_way] at HW2
          obtain ⟨M, hM⟩ : ∃ M, sumM S g 2 = M := ⟨_, rfl⟩
          rw [hM] at HT HTk HW2
          rw [HY.out] at HT HTk HW2
          have HG := Lib.hid hg'
          have HGb := Lib.hid gb
          clear hg' hg tk1 tk2 tk3 hM
          go_wp2_with fail
          refine (within_any x1 19 g' _ (by omega) (by omega) HG.out).mono ?_
          rintro e w' ⟨rfl, rfl⟩
          go_wp2_with fail
          refine (HT.out _ R3.out).mono ?_
          rintro e w4 (⟨_, rfl, hb4⟩ | ⟨hle, A4, c4, f4, rfl, _, h4, hf4, k4⟩)
          · have B4 := Lib.hid (B3.out.trans (hb4.mono B3.out.size))
            clear hb4
            go_wp2_with fail
            go_ret
            exact ⟨rfl, B4.out⟩
          · have R4 := Lib.hid h4
            have B4 := Lib.hid (B3.out.trans (k4.below B3.out.size HF.out))
            have F4 := Lib.hid (fun x hx => (hf4 x hx).elim (HF.out x) (fun h => Nat.le_trans B3.out.size h))
            have O4 := Lib.hid (HTk.out hle)
            have HW3 := Lib.hid (HW2.out hle _ _ h4)
            have hs := HBd.out
            have v1 : IntKind.i64.wrap (((y + M : Nat) : Int) - (y : Int)) = (M : Int) := by
              rw [show ((y + M : Nat) : Int) - (y : Int) = M by omega]; exact IntWalk.i64_in _ (by omega)
            have v2 : IntKind.i64.wrap (sent + (M : Int)) = sent + (M : Int) := IntWalk.i64_in _ (by omega)
            obtain ⟨yy, hyy⟩ : ∃ yy, y + M = yy := ⟨_, rfl⟩
            rw [hyy] at HW3 v1
            clear h4 hf4 k4 hle hs hyy
            go_wp2_with fail
            refine HW3.out.mono ?_
            rintro e w5 ⟨A5, c5, rfl, _, hb5⟩
            have R5 := Lib.hid (R4.out.below hb5)
            have B5 := Lib.hid (B4.out.trans (hb5.mono B4.out.size))
            clear hb5
            go_wp2_with fail
            go_roundw
            case rel => exact ⟨k + 1, _, f4, _, heard, by omega, rfl, rfl, by go_num, R5.out, O4.out.later (by have := HGb.out; omega), F4.out, B5.out⟩
            case measure => simp [intOf]; omega
        by_cases hz1 : a0 = 1
        · subst hz1
          clear d0 hz
          have d1 := within_bd x1 (n := 10) (by omega)
          obtain ⟨i, hi⟩ : ∃ i : Nat, within x1 10 = i := ⟨(within x1 10).toNat, by omega⟩
          have HI := Lib.hid hi
          by_cases hiy : i < y
          · have HLo := Lib.hid (fun w' (h : TRep w' t S f) => tlose_ok (i := i) w' h (by rw [HY.out]; omega) (by rw [HY.out]; omega))
            clear hi d1
            go_wp2_with fail
            refine (within_any x1 10 i _ (by omega) (by omega) HI.out).mono ?_
            rintro e w' ⟨rfl, rfl⟩
            go_wp2_with fail
            refine (HLo.out _ R3.out).mono ?_
            rintro e w4 ⟨rfl, ⟨f4, h4, hf4⟩, k4⟩
            have R4 := Lib.hid h4
            have B4 := Lib.hid (B3.out.trans (k4.below B3.out.size HF.out))
            have F4 := Lib.hid (fun x hx => HF.out x (hf4 x hx))
            have O4 := Lib.hid (HOk.out.lose i)
            clear h4 hf4 k4
            go_wp2_with fail
            go_roundw
            case rel => exact ⟨k + 1, _, f4, _, heard, by omega, rfl, rfl, by go_num, R4.out, O4.out.later (by omega), F4.out, B4.out⟩
            case measure => simp [intOf]; omega
          · have HLo := Lib.hid (fun w' (h : TRep w' t S f) => tlose_no (i := i) w' h (by rw [HY.out]; omega) (by omega))
            clear hi d1
            go_wp2_with fail
            refine (within_any x1 10 i _ (by omega) (by omega) HI.out).mono ?_
            rintro e w' ⟨rfl, rfl⟩
            go_wp2_with fail
            refine (HLo.out _ R3.out).mono ?_
            rintro e w' ⟨rfl, rfl⟩
            go_wp2_with fail
            go_roundw
            case rel => exact ⟨k + 1, _, f, _, heard, by omega, rfl, rfl, by go_num, R3.out, HOk.out.later (by omega), HF.out, B3.out⟩
            case measure => simp [intOf]; omega
        have hz0' : (a0 == 0) = false := by simp [hz]
        have hz1' : (a0 == 1) = false := by simp [hz1]
        by_cases hy0 : y = 0
        · subst hy0
          clear d0
          go_wp2_with fail
          go_roundw
          case rel => exact ⟨k + 1, _, f, _, heard, by omega, rfl, rfl, by go_num, R3.out, HOk.out.later (by omega), HF.out, B3.out⟩
          case measure => simp [intOf]; omega
        have hy' : ((y : Int) == 0) = false := by simp [hy0]
        have d1 := within_bd x1 (n := y) (by omega)
        obtain ⟨i, hi⟩ : ∃ i : Nat, within x1 y = i := ⟨(within x1 y).toNat, by omega⟩
        have hiy : i < y := by omega
        have yi : (i : Int) < y := by omega
        obtain ⟨z4, hz4⟩ : ∃ z, IntKind.i64.wrap (x0.tdiv 4) = z := ⟨_, rfl⟩
        have d2 := within_bd z4 (n := 2) (by omega)
        obtain ⟨u, hu⟩ : ∃ u : Nat, within z4 2 = u := ⟨(within z4 2).toNat, by omega⟩
        have hu2 : u < 2 := by omega
        obtain ⟨j, q, hj, q1, q2, q3, q4⟩ := HOk.out.two.tok.text (by omega) (i := i) (by rw [HY.out]; omega)
        have HI := Lib.hid hi
        have HU := Lib.hid hu
        have HWi := Lib.hid (fun w' => within_bel x1 y i w' (by omega) (by omega) hi)
        have HWu := Lib.hid (fun w' => within_bel z4 2 u w' (by omega) (by omega) hu)
        have tw := HOk.out.bring (u := u) hu2 hj ⟨q1, q2⟩ q3
        have HB1 := Lib.hid (fun w' (h : TRep w' t S f) => tbring_ok (i := i) (u := u) w' h (by rw [HY.out]; omega) (by rw [HOk.out.two.tok.sn]; omega) (by rw [HOk.out.two.dead]) (HOk.out.two.tok.tn u hu2).ok (nmT_ok j) ⟨q1, q2⟩ q4)
        have e1 : (setN S u (hearF (S.nd u) (nmT j) q).1).nd u = (hearF (S.nd u) (nmT j) q).1 := setN_at _ _ _
        have y1 : (setN S u (hearF (S.nd u) (nmT j) q).1).way = S.way := rfl
        have sq : q ≤ ((setN S u (hearF (S.nd u) (nmT j) q).1).nd j).seq := by rw [setN_seq]; exact q3
        have bd := HBd.out
        have vh : IntKind.i64.wrap (heard + 1) = heard + 1 := IntWalk.i64_in _ (by have := HOk.out.pos; omega)
        obtain ⟨S1, hS1⟩ : ∃ x, setN S u (hearF (S.nd u) (nmT j) q).1 = x := ⟨_, rfl⟩
        rw [hS1] at HB1 tw e1 y1 sq
        clear hi hu d0 d1 d2 hS1
        rcases tw with ⟨k1, k2, tw⟩ | ⟨k1, tw⟩
        · have k3 : has (S1.nd u).peers (nmT j) = true := by rw [e1, hearF_has]; exact k1
          have k4 : newB (S1.nd u) (nmT j) q = false := by rw [e1]; exact newB_again k1
          have HB2 := Lib.hid (fun f' w' (h : TRep w' t S1 f') => tbring_ok (i := i) (u := u) w' h (by rw [y1, HY.out]; omega) (by rw [tw.two.tok.sn]; omega) (by rw [tw.two.dead]) (tw.two.tok.tn u hu2).ok (nmT_ok j) ⟨q1, q2⟩ (by rw [y1]; exact q4))
          have tw2 : HeardT E (60 * k) sent (heard + 1) (setN S1 u (hearF (S1.nd u) (nmT j) q).1) := by
            rcases tw.bring (u := u) hu2 hj ⟨q1, q2⟩ sq with ⟨_, h, _⟩ | ⟨_, h⟩
            · rw [k4] at h; cases h
            · exact h
          have O2 := Lib.hid tw2
          have HK := Lib.hid (And.intro (And.intro k1 k2) (And.intro k3 k4))
          clear k1 k2 k3 k4 tw tw2 e1 y1 sq q1 q2 q3 q4 hj bd
          go_wp2_with fail
          refine wp_region_quiet_all (Ext _) (by kernel_rfl) (by kernel_rfl) (Ext.drawn _) ?_
          repeat (first | go_big_quiet_skip | go_big_quiet_step (fail) | (refine BigFrame.wpQuiet_want rfl (fun K hK => ?_); apply Exists.intro; refine ⟨fun w2 h2 => ?_, ?_⟩; (next => (have g1 := Below.cells h2.below; have g2 := Below.frozens h2.below; (try simp only [World.size_alloc, World.size_setCell] at g1 g2); first | (go_simp; (go_at_call 28; first | (with_reducible exact h2.calls (HWi.out _)) | (with_reducible exact h2.calls (HWu.out _)))) | (simp [go_sem, ↓IntWalk.iteOmega, *]; done) | (simp [go_sem, ↓IntWalk.iteOmega, *]; rfl)))); (go_simp; refine hK _ ?_; clear hK K))
          refine wpQuiet_nil ?_
          intro w4 h4
          have hb4 := h4.below
          clear h4
          have z4 := hb4.size
          have c4 := Below.cells hb4
          have f4 := Below.frozens hb4
          try simp only [World.size_alloc, World.size_setCell, World.size_drew] at z4 c4 f4
          go_wp2_with fail
          have R4 := Lib.hid (R3.out.below hb4)
          have B4 := Lib.hid (B3.out.trans (hb4.mono B3.out.size))
          refine (HB1.out _ R4.out).mono ?_
          rintro e w5 ⟨A5, c5, e5, f5, rfl, h5, hf5, k5, g5, _⟩
          have E5 := g5 HK.out.1.1 HK.out.1.2
          subst E5
          have R5 := Lib.hid h5
          have B5 := Lib.hid (B4.out.trans (k5.below B4.out.size HF.out))
          have F5 := Lib.hid (fun x hx => (hf5 x hx).elim (HF.out x) (fun h => Nat.le_trans B4.out.size h))
          clear h5 hf5 k5 g5
          go_wp2_with fail
          refine (HB2.out _ _ R5.out).mono ?_
          rintro e w6 ⟨A6, c6, e6, f6, rfl, h6, hf6, k6, _, g6, _⟩
          have E6 := g6 HK.out.2.1 HK.out.2.2
          subst E6
          have R6 := Lib.hid h6
          have B6 := Lib.hid (B5.out.trans (k6.below B5.out.size F5.out))
          have F6 := Lib.hid (fun x hx => (hf6 x hx).elim (F5.out x) (fun h => Nat.le_trans B5.out.size h))
          clear h6 hf6 k6 g6
          go_wp2_with fail
          go_roundw
          case rel => exact ⟨k + 1, _, f6, _, _, by omega, rfl, rfl, by go_num, R6.out, O2.out.later (by omega), F6.out, B6.out⟩
          case measure => simp [intOf]; omega
        · have O2 := Lib.hid tw
          have HK := Lib.hid k1
          clear k1 tw e1 y1 sq q1 q2 q3 q4 hj bd
          go_wp2_with fail
          refine wp_region_quiet_all (Ext _) (by kernel_rfl) (by kernel_rfl) (Ext.drawn _) ?_
          repeat (first | go_big_quiet_skip | go_big_quiet_step (fail) | (refine BigFrame.wpQuiet_want rfl (fun K hK => ?_); apply Exists.intro; refine ⟨fun w2 h2 => ?_, ?_⟩; (next => (have g1 := Below.cells h2.below; have g2 := Below.frozens h2.below; (try simp only [World.size_alloc, World.size_setCell] at g1 g2); first | (go_simp; (go_at_call 28; first | (with_reducible exact h2.calls (HWi.out _)) | (with_reducible exact h2.calls (HWu.out _)))) | (simp [go_sem, ↓IntWalk.iteOmega, *]; done) | (simp [go_sem, ↓IntWalk.iteOmega, *]; rfl)))); (go_simp; refine hK _ ?_; clear hK K))
          refine wpQuiet_nil ?_
          intro w4 h4
          have hb4 := h4.below
          clear h4
          have z4 := hb4.size
          have c4 := Below.cells hb4
          have f4 := Below.frozens hb4
          try simp only [World.size_alloc, World.size_setCell, World.size_drew] at z4 c4 f4
          go_wp2_with fail
          have R4 := Lib.hid (R3.out.below hb4)
          have B4 := Lib.hid (B3.out.trans (hb4.mono B3.out.size))
          refine (HB1.out _ R4.out).mono ?_
          rintro e w5 ⟨A5, c5, e5, f5, rfl, h5, hf5, k5, _, g5, g5'⟩
          have E5 : (e5 == 0) = false := by
            rcases HK.out with h | ⟨h1, h2⟩
            · have := g5' h
              simpa using this
            · have := g5 h1 h2
              subst this
              rfl
          have R5 := Lib.hid h5
          have B5 := Lib.hid (B4.out.trans (k5.below B4.out.size HF.out))
          have F5 := Lib.hid (fun x hx => (hf5 x hx).elim (HF.out x) (fun h => Nat.le_trans B4.out.size h))
          clear h5 hf5 k5 g5 g5'
          go_wp2_with fail
          go_roundw
          case rel => exact ⟨k + 1, _, f5, _, _, by omega, rfl, rfl, by go_num, R5.out, O2.out.later (by omega), F5.out, B5.out⟩
          case measure => simp [intOf]; omega
    · obtain rfl : n = k := by omega
      have HBe := Lib.hid bel
      have hd := hok.done
      clear bel hrep hok hf
      go_wp2_with fail
      go_ret
      exact ⟨by simp [hd], HBe.out⟩
end Go.Proofs.Ytpomdnglknbanaa
