/-
  The walk of the statements' own burst: a text with some of 32 bits turned.
-/
import Derived.Test.YtamncanlbopehaaXo
set_option linter.unusedSimpArgs false
set_option linter.unusedVariables false
namespace Go.Proofs.Ytamncanlbopehaa
open Go.RowKit

theorem xor_add {x i : Nat} (h : x < 2 ^ i) : x ^^^ 2 ^ i = 2 ^ i + x := by
  have e := Nat.two_pow_add_eq_or_of_lt h 1
  rw [Nat.mul_one] at e
  rw [e]
  apply Nat.eq_of_testBit_eq
  intro j
  rw [Nat.testBit_xor, Nat.testBit_or, Nat.testBit_two_pow]
  by_cases c : i = j
  · subst c; rw [Nat.testBit_lt_two_pow h]; simp
  · simp [c]
theorem turn_step {t i : Nat} (at' : Nat) : (t / 2 ^ i % 2 = 1 → t % 2 ^ (i + 1) * 2 ^ at' = (t % 2 ^ i * 2 ^ at') ^^^ 2 ^ (at' + i)) ∧ (t / 2 ^ i % 2 = 0 → t % 2 ^ (i + 1) = t % 2 ^ i) := by
  have e : t % 2 ^ (i + 1) = 2 ^ i * (t / 2 ^ i % 2) + t % 2 ^ i := by rw [Nat.pow_succ, Nat.mod_mul]; omega
  constructor
  · intro h
    rw [e, h, Nat.mul_one]
    have hl : t % 2 ^ i < 2 ^ i := Nat.mod_lt _ (Nat.two_pow_pos i)
    rw [← xor_add hl, Nat.pow_add, Nat.mul_comm (2 ^ at') (2 ^ i)]
    rw [← Nat.shiftLeft_eq, ← Nat.shiftLeft_eq, ← Nat.shiftLeft_eq, Nat.shiftLeft_xor_distrib]
  · intro h; rw [e, h]; omega
set_option maxRecDepth 1000000 in
theorem run_text (w : World) {b n c : Nat} {l : List Nat} (hb : Bytes l) (hl : l.length = n) (h : ∀ j, j < n → w.cell? ⟨b, j, none⟩ = some (bv (l.getD j 0))) :
    (convert 91 9 (.slice (some ⟨b, 0, none⟩) n c)).run Try.prog w = .ok (.string (mkB l)) w := by
  have := run_convert_bytes_back w 91 9 5 ⟨b, 0, none⟩ c (l.map UInt8.ofNat) Try.underlying91 Try.underlying5 Try.underlying9 (fun j hj => by
    rw [List.length_map] at hj
    rw [Go.WideShapes.add_plain, Nat.zero_add, h j (by omega)]
    have e : l.getD j 0 = l[j] := by simp [List.getD, hj]
    have := hb l[j] (List.getElem_mem hj)
    rw [e]
    simp only [List.getElem_map, bv]
    congr 2
    simp; omega)
  rw [List.length_map, hl] at this
  exact this
/-- The turned texts: as many bytes, of these bits. -/
def Turned (l l' : List Nat) (x : Nat) : Prop := l'.length = l.length ∧ Bytes l' ∧ dg l' = dg l ^^^ x
theorem bytes_set {l : List Nat} (h : Bytes l) {k v : Nat} (hv : v < 256) : Bytes (l.set k v) := fun x hx => by
  rcases List.mem_or_eq_of_mem_set hx with h1 | h1
  · exact h x h1
  · omega
theorem Turned.bit {l l' : List Nat} {x p : Nat} (h : Turned l l' x) (hp : p < 8 * l.length) : Turned l (l'.set (p / 8) (l'.getD (p / 8) 0 ^^^ 2 ^ (p % 8))) (x ^^^ 2 ^ p) := by
  obtain ⟨h1, h2, h3⟩ := h
  refine ⟨by simp [h1], bytes_set h2 (Nat.xor_lt_two_pow (n := 8) ?_ ?_), ?_⟩
  · have hk : p / 8 < l'.length := by omega
    have : l'.getD (p / 8) 0 = l'[p / 8] := by simp [List.getD, hk]
    rw [this]; exact h2 _ (List.getElem_mem hk)
  · exact Nat.pow_lt_pow_right (by omega) (by omega)
  · rw [dg_turn h2 (by omega), h3, Nat.xor_assoc]

set_option maxHeartbeats 4000000 in
set_option maxRecDepth 100000 in
theorem burst_ok (s : ByteArray) (at' t n : Nat) (w : World) (hs : s.size = n) (hm : n ≤ 1000000) (hat : at' + 32 ≤ 8 * n) (ht : t < 4294967296) :
    Calls Try.prog 22 #[.string s, .int .i64 at', .int .u32 t] w fun e w' => ∃ l', e = .returned (.string (mkB l')) ∧ Turned (byts s) l' (t * 2 ^ at') ∧ Below w.heap.size w w' := by
  have hcv := run_bytes_of_string (P := Try.prog) w 9 91 5 s Try.underlying9 Try.underlying91 Try.underlying5
  rw [hs] at hcv
  obtain ⟨cap, hcap⟩ : ∃ c, grownCap w n 0 5 = c := ⟨_, rfl⟩
  rw [hcap] at hcv
  obtain ⟨row, hrow⟩ : ∃ r, bytesRow s cap = r := ⟨_, rfl⟩
  have hat' : ∀ k, k < n → row[k]? = some (bv ((byts s).getD k 0)) := fun k hk => by
    rw [← hrow, byts_get s (by omega)]
    exact bytesRow_at s cap k (by rw [← hs] at hk; exact hk)
  rw [hrow] at hcv
  obtain ⟨w1, hw1⟩ : ∃ w1, w1 = w.drew.alloc (.cells row 5 (row.size, row.size + 1)) := ⟨_, rfl⟩
  have bel1 : Below w.heap.size w w1 := by rw [hw1]; exact (Below.refl _ _).drew.alloc (Nat.le_refl _) _
  have sz1 : w.heap.size < w1.heap.size := by rw [hw1]; simp
  have ce1 : ∀ k, k < n → w1.cell? ⟨w.heap.size, k, none⟩ = some (bv ((byts s).getD k 0)) := fun k hk => by
    rw [hw1]; exact (World.cell?_alloc_mark w.drew row _ _ k).trans (hat' k hk)
  have fr1 : ∀ k, k < n → w1.frozen? ⟨w.heap.size, k, none⟩ = false := fun k hk => by
    rw [hw1]
    refine (World.frozen?_alloc_mark w.drew row _ _ _ k).trans ?_
    have := (Array.getElem?_eq_some_iff.1 (hat' k hk)).1
    simp; omega
  rw [← hw1] at hcv
  obtain ⟨l, hl⟩ : ∃ l, byts s = l := ⟨_, rfl⟩
  rw [hl] at ce1
  have ll : l.length = n := by rw [← hl, byts_len, hs]
  have lb : Bytes l := by rw [← hl]; exact byts_bytes s
  have HL := Lib.hid hl
  have HLL := Lib.hid ll
  have HLB := Lib.hid lb
  have HC := Lib.hid ce1
  have HF := Lib.hid fr1
  have HB := Lib.hid bel1
  clear hat' hrow hw1 bel1 ce1 fr1 hl ll lb hcap
  go_enter Try.func22, Try.ntmps22
  go_wp2_with fail
  clear hcv
  go_loopw [11] (fun i wr => ∃ (k : Nat) (l' : List Nat), k ≤ 32 ∧ i = .int .i64 k ∧ Turned l l' (t % 2 ^ k * 2 ^ at') ∧ (∀ j, j < n → wr.cell? ⟨w.heap.size, j, none⟩ = some (bv (l'.getD j 0))) ∧ (∀ j, j < n → wr.frozen? ⟨w.heap.size, j, none⟩ = false) ∧ Below w.heap.size w wr) (fun i _ => 32 - (intOf i).toNat)
  case atStart => exact ⟨0, l, Nat.zero_le _, rfl, ⟨rfl, HLB.out, by simp [Nat.mod_one]⟩, HC.out, HF.out, HB.out⟩
  case round =>
    obtain ⟨k, l', hk, rfl, htu, hce, hfr, bel⟩ := hrel
    have HTU := Lib.hid htu
    have HCE := Lib.hid hce
    have HFR := Lib.hid hfr
    clear htu hce hfr
    by_cases hlt : k < 32
    · by_cases hbit : t / 2 ^ k % 2 = 1
      · have e0 : ((t : Int) / 2 ^ k) = ((t / 2 ^ k : Nat) : Int) := by rw [Int.natCast_ediv, Int.natCast_pow]; rfl
        have tb : t / 2 ^ k < 4294967296 := Nat.lt_of_le_of_lt (Nat.div_le_self _ _) ht
        have hand : bits .and .u32 ((t : Int) / 2 ^ k) 1 = 1 := by rw [e0, bit_one _ tb, hbit]; rfl
        obtain ⟨P, hP⟩ : ∃ P, at' + k = P := ⟨_, rfl⟩
        obtain ⟨q, hq⟩ : ∃ q, P / 8 = q := ⟨_, rfl⟩
        obtain ⟨r, hr⟩ : ∃ r, P % 8 = r := ⟨_, rfl⟩
        have qn : q < n := by omega
        have pb : P < 8 * n := by omega
        obtain ⟨PI, hPI⟩ : ∃ z : Int, (P : Int) = z := ⟨_, rfl⟩
        obtain ⟨QI, hQI⟩ : ∃ z : Int, (q : Int) = z := ⟨_, rfl⟩
        obtain ⟨RI, hRI⟩ : ∃ z : Int, (r : Int) = z := ⟨_, rfl⟩
        have g0 : (at' : Int) + (k : Int) = PI := by omega
        have g1 : PI.tdiv 8 = QI := by rw [Int.tdiv_eq_ediv_of_nonneg (by omega)]; omega
        have g2 : PI.tmod 8 = RI := by rw [Int.tmod_eq_emod_of_nonneg (by omega)]; omega
        have g3 : IntKind.i64.wrap PI = PI := IntWalk.i64_in _ (by omega)
        have g4 : wrap64 PI = PI := IntWalk.wrap64_in _ ⟨by omega, by omega⟩
        have g5 : IntKind.i64.wrap QI = QI := IntWalk.i64_in _ (by omega)
        have g6 : wrap64 QI = QI := IntWalk.wrap64_in _ ⟨by omega, by omega⟩
        have g7 : QI.toNat = q := by omega
        have g8 : RI.toNat = r := by omega
        have q0 : 0 ≤ QI := by omega
        have q1 : QI < (n : Int) := by omega
        have r0 : 0 ≤ RI := by omega
        have r1 : RI < 8 := by omega
        clear hPI hQI hRI
        have hce := HCE.out q qn
        have hfr := HFR.out q qn
        obtain ⟨b, hbv⟩ : ∃ b, l'.getD q 0 = b := ⟨_, rfl⟩
        rw [hbv] at hce
        have HP := Lib.hid hP
        have HQ := Lib.hid hq
        have HR := Lib.hid hr
        have HBV := Lib.hid hbv
        have bb : b < 256 := by
          rw [← hbv]
          have hk2 : q < l'.length := by rw [HTU.out.1, HLL.out]; exact qn
          have : l'.getD q 0 = l'[q] := by simp [List.getD, hk2]
          rw [this]; exact HTU.out.2.1 _ (List.getElem_mem hk2)
        obtain ⟨G, hG⟩ : ∃ G : Nat, 2 ^ r = G := ⟨_, rfl⟩
        have r8 : r < 8 := by omega
        have rp : G < 256 := by rw [← hG]; exact Nat.pow_lt_pow_right (a := 2) (m := r) (n := 8) (by decide) r8
        have e2 : (2 : Int) ^ r = (G : Int) := by rw [← hG, Int.natCast_pow]; rfl
        obtain ⟨v, hv⟩ : ∃ v, b ^^^ 2 ^ r = v := ⟨_, rfl⟩
        have hx : bits .xor .u8 (b : Int) (2 ^ r % 256) = (v : Int) := by
          rw [e2, show (G : Int) % 256 = (G : Int) by omega, u8_xor_nat _ _ bb (by omega), ← hG, hv]
        have HV := Lib.hid hv
        have HBIT := Lib.hid hbit
        clear hP hq hr hbv tb e0 hat hv hbit rp e2 hG
        have hs0 : ¬ RI < 0 := by omega
        go_wp2_with fail
        have ltw := World.block_lt_of_cell? wr _ hce
        refine wp_region_quiet_tail 14 (Ext _) (by kernel_rfl) (by kernel_rfl) (Ext.drawn _) ?_
        simp only [List.take_succ_cons, List.take_zero, List.drop_succ_cons, List.drop_zero]
        repeat (first | go_big_quiet_skip | go_big_quiet_step (fail) | (refine BigFrame.wpQuiet_want rfl (fun K hK => ?_); apply Exists.intro; refine ⟨fun w2 h2 => ?_, ?_⟩; (next => (have g1 := Below.cells h2.below; have g2 := Below.frozens h2.below; (try simp only [World.size_alloc, World.size_setCell] at g1 g2); first | (go_simp; (fail)) | (simp [go_sem, ↓IntWalk.iteOmega, *]; done) | (simp [go_sem, ↓IntWalk.iteOmega, *]; rfl)))); (go_simp; refine hK _ ?_; clear hK K))
        refine wpQuiet_nil ?_
        intro w1 h1
        have hb1 := h1.below
        clear h1
        have z1 := hb1.size
        have c1 := Below.cells hb1
        have f1 := Below.frozens hb1
        try simp only [World.size_alloc, World.size_setCell, World.size_drew] at z1 c1 f1
        go_wp2_with fail
        go_roundw
        case rel =>
          have hq2 := HQ.out
          have hr2 := HR.out
          have hP2 := HP.out
          have hb2 := HBV.out
          have htn := HTU.out.bit (p := P) (by rw [HLL.out]; exact pb)
          rw [hq2, hr2, hb2, HV.out, ← hP2, ← (turn_step at').1 HBIT.out] at htn
          refine ⟨k + 1, l'.set q v, by omega, by go_num, htn, fun j hj => ?_, fun j hj => ?_, (bel.trans (hb1.mono bel.size)).setCell (Nat.le_refl _) _⟩
          · have hln : l'.length = n := HTU.out.1.trans HLL.out
            by_cases c : q = j
            · subst c
              rw [World.cell?_setCell_same _ _ _ ((hb1.cell (p := ⟨w.heap.size, q, none⟩) ltw).trans (HCE.out q qn))]
              simp [List.getD, show q < l'.length by omega]
            · rw [World.cell?_setCell_other _ _ _ _ (by intro e; injection e with e1 e2; exact c e2), hb1.cell (p := ⟨w.heap.size, j, none⟩) ltw, HCE.out j hj]
              simp [List.getD, List.getElem?_set, c]
          · rw [World.frozen?_setCell, hb1.frozen (p := ⟨w.heap.size, j, none⟩) ltw]
            exact HFR.out j hj
        case measure => simp [intOf]; omega
      · have e0 : ((t : Int) / 2 ^ k) = ((t / 2 ^ k : Nat) : Int) := by rw [Int.natCast_ediv, Int.natCast_pow]; rfl
        have tb : t / 2 ^ k < 4294967296 := Nat.lt_of_le_of_lt (Nat.div_le_self _ _) ht
        have hb0 : t / 2 ^ k % 2 = 0 := by omega
        have hand : bits .and .u32 ((t : Int) / 2 ^ k) 1 = 0 := by rw [e0, bit_one _ tb, hb0]; rfl
        have htu := HTU.out
        rw [← (turn_step at').2 hb0] at htu
        have HTN := Lib.hid htu
        clear htu e0 tb hb0
        go_wp2_with fail
        go_roundw
        case rel => exact ⟨k + 1, l', by omega, by go_num, HTN.out, HCE.out, HFR.out, bel⟩
        case measure => simp [intOf]; omega
    · obtain rfl : k = 32 := by omega
      have htu := HTU.out
      rw [Nat.mod_eq_of_lt (show t < 2 ^ 32 by omega)] at htu
      have htx := htu
      have hc2 : (convert 91 9 (.slice (some ⟨w.heap.size, 0, none⟩) n cap)).run Try.prog wr = .ok (.string (mkB l')) wr :=
        run_text wr htu.2.1 (htu.1.trans HLL.out) HCE.out
      have HTN := Lib.hid htu
      clear htu htx
      go_wp2_with fail
      go_ret
      exact ⟨l', rfl, by rw [HL.out]; exact HTN.out, bel⟩
end Go.Proofs.Ytamncanlbopehaa
