import Derived.Test.YtlnagfmaiabhaaaHd
import Derived.Test.YtlnagfmaiabhaaaQM
import Derived.Test.YtlnagfmaiabhaaaTc
import Derived.Test.YtlnagfmaiabhaaaTl
import Derived.Test.YtlnagfmaiabhaaaRun
import Derived.Test.YtlnagfmaiabhaaaRk
import Derived.Test.YtlnagfmaiabhaaaMm
import Derived.Test.YtlnagfmaiabhaaaSu
import Derived.Test.YtlnagfmaiabhaaaW1
import Derived.Test.YtlnagfmaiabhaaaVal
import Derived.Test.YtlnagfmaiabhaaaLrankmedian
import Derived.Deep.AppendLies
set_option linter.unusedSimpArgs false
set_option linter.unusedVariables false
namespace Go.Proofs.Ytlnagfmaiabhaaa
open Go Go.RowKit
set_option maxHeartbeats 4000000 in
theorem tt_begun (w : World) :
    Calls Try.prog 20 #[] w fun e w' => e = .returned (.bool true) ∧ Below w.heap.size w w' := by
  have HA := Lib.hid (fun w => add_ok 2 3 5 (Wd.lit (l := 2) (by unfold U64; omega)) (Wd.lit (l := 3) (by unfold U64; omega)) rfl (by unfold U128; omega) w)
  have e1 : hi 5 = 0 := by decide
  have e2 : lo 5 = 5 := by decide
  have qa := alloc_cells
  have qf := alloc_frozens
  go_enter Try.func20, Try.ntmps20
  go_wp2_with fail
  refine (HA.out _).mono ?_
  rintro e w1 ⟨rfl, hb1⟩
  have z1 := hb1.size
  have c1 := Below.cells hb1
  have f1 := Below.frozens hb1
  try simp only [World.size_alloc, World.size_setCell, World.size_drew] at z1 c1 f1
  go_wp2_with fail
  go_ret
  exact ⟨rfl, (by repeat (first | (with_reducible exact Below.refl _ _) | ((with_reducible refine Below.alloc ?_ ?_ _); rotate_left; (next => ((try dsimp only); (try simp only [World.size_alloc, World.size_setCell, World.size_drew]); omega))) | ((with_reducible refine Below.setCell ?_ ?_ _); rotate_left; (next => ((try dsimp only); (try simp only [World.size_alloc, World.size_setCell, World.size_drew]); omega))) | (with_reducible refine Below.drew ?_) | ((with_reducible refine Below.trans ?_ (Below.mono hb1 ?_)); rotate_left; (next => ((try dsimp only); (try simp only [World.size_alloc, World.size_setCell, World.size_drew]); omega)))))⟩
theorem tt_mean {l : List Int} {lo hi : Int} (h : Btw lo hi l) (h0 : 0 < l.length) : lo ≤ sumI l / l.length ∧ sumI l / l.length ≤ hi := by
  have a : (l.length : Int) * lo ≤ sumI l ∧ sumI l ≤ l.length * hi := by
    clear h0
    induction l with
    | nil => simp [sumI]
    | cons x l ih =>
      have a := ih h.tail
      have b := h.head
      simp only [sumI, List.length_cons, Int.natCast_add, Int.add_mul]
      omega
  constructor
  · rw [Int.le_ediv_iff_mul_le (by omega), Int.mul_comm]; exact a.1
  · have := Int.ediv_le_of_le_mul (a := sumI l) (b := hi) (c := l.length) (by omega) (by rw [Int.mul_comm]; exact a.2)
    omega
theorem own_setRow {w : World} {B e s n : Nat} {v : Value} {xs : List Value} (h : w.ownsRow B e s v n xs) {b : Nat} (hb : b < B) (cs : Array Value) : (w.setRow b cs).ownsRow B e s v n xs := by
  refine ⟨h.1, h.2.imp id fun ⟨g, cap, cur, h1, h2, h3, h4⟩ => ⟨g, cap, cur, h1, h2, ?_, h4⟩⟩
  exact (setRow_other (by omega)).trans h3
theorem exec_load_row {P : Program} {o : Oper} {a : Act} {w : World} (ty : TypeId) (x : Operand) (ho : o.op = .load ty x)
    (g : Nat) (hx : a.eval x = .pointer (some ⟨g, 0, none⟩)) (t : TypeId) (cs : Array Value) (fr : Nat × Nat) (d : TypeDesc) (hg : w.heap[g]? = some (.cells cs t fr))
    (hu : P.underlying ty = some d) (hd : (match d with | .struct _ | .array _ _ => true | _ => false) = true) (hi : (P.info? ty).map (·.size) = some cs.size) : (execOp a.eval o).run P w = .ok (.value (.agg cs)) w := by
  unfold execOp
  simp only [ho, hx, Instr.loadAt, Instr.sureAddr, Sem.run_bind, Sem.run_pure, Result.andThen_ok, run_loadVar_row w g t ty cs fr d hg hu hd hi]
theorem tails_pack (ys : List Int) (n : Nat) (S Q X T : Int) (h0 : 0 < n) (hn : ys.length = n) (hm : n ≤ 64) (hb : Btw 0 16777216 ys) (hS : sumI ys = S) (hQ : sqI ys = Q) (hX : (n : Int) * Q - S * S = X) (hsp : spr ys = X) (ok : SumsOK n S Q) (hT : 1 ≤ T ∧ T ≤ 33554432) :
    ∃ C MA CA M lo hi x f mn mx : Int, (C ≤ MA ∧ C ≤ CA ∧ mn ≤ M ∧ M ≤ mx ∧ lo ≤ x ∧ x ≤ hi ∧ 256 * mn ≤ f ∧ f ≤ 256 * mx ∧ 0 ≤ mn ∧ mn ≤ 16777216 ∧ 0 ≤ mx ∧ mx ≤ 16777216) ∧
    Hid (∀ A c w', Row w' A n ys → Calls Try.prog 22 #[.slice A n c] w' fun e w'' => e = .returned (.tuple #[.agg #[.int .i64 n, .int .i64 S, .int .i64 Q], .int .i64 0]) ∧ Below w'.heap.size w' w'') ∧
    Hid (∀ A c w', Row w' A n ys → Calls Try.prog 56 #[.slice A n c, .int .i64 T] w' fun e w'' => e = .returned (.tuple #[.int .i64 C, .int .i64 0]) ∧ w' = w'') ∧
    Hid (∀ w', Calls Try.prog 57 #[.agg #[.int .i64 n, .int .i64 S, .int .i64 Q], .int .i64 T] w' fun e w'' => e = .returned (.tuple #[.int .i64 MA, .int .i64 0]) ∧ Below w'.heap.size w' w'') ∧
    Hid (∀ w', Calls Try.prog 58 #[.agg #[.int .i64 n, .int .i64 S, .int .i64 Q], .int .i64 T] w' fun e w'' => e = .returned (.tuple #[.int .i64 CA, .int .i64 0]) ∧ Below w'.heap.size w' w'') ∧
    Hid (∀ w', Calls Try.prog 59 #[.agg #[.int .i64 n, .int .i64 S, .int .i64 Q]] w' fun e w'' => e = .returned (.tuple #[.int .i64 M, .int .i64 0]) ∧ Below w'.heap.size w' w'') ∧
    Hid (∀ w', Calls Try.prog 38 #[.agg (hv (hc ys)), .int .i64 1, .int .i64 2] w' fun e w'' => e = .returned (.tuple #[.int .i64 lo, .int .i64 hi, .int .i64 0]) ∧ Below w'.heap.size w' w'') ∧
    Hid (∀ A c w', Row w' A n ys → Calls Try.prog 55 #[.slice A n c, .int .i64 1, .int .i64 2] w' fun e w'' => e = .returned (.tuple #[.int .i64 x, .int .i64 0]) ∧ Below w'.heap.size w' w'') ∧
    Hid (∀ A c w', InRow w' A n c ys → Calls Try.prog 60 #[.slice A n c, .int .i64 8] w' fun e w'' => e = .returned (.tuple #[.int .i64 f, .int .i64 0]) ∧ w' = w'') ∧
    Hid (∀ A c w', Row w' A n ys → Calls Try.prog 25 #[.slice A n c] w' fun e w'' => e = .returned (.int .i64 mn) ∧ w' = w'') ∧
    Hid (∀ A c w', Row w' A n ys → Calls Try.prog 24 #[.slice A n c] w' fun e w'' => e = .returned (.int .i64 mx) ∧ w' = w'') := by
  obtain ⟨K, hK, hKn, k1, k2⟩ := kth_rank n 1 2 h0 (by omega) (by omega)
  obtain ⟨x, hx⟩ : ∃ x, (srt ys).getD K 0 = x := ⟨_, rfl⟩
  have hmem := kth_mem ys K (by omega)
  rw [hx] at hmem
  have hxb := hb x hmem
  obtain ⟨lo, hi, hlh, l0, l1, l2, l3, l4, l5⟩ := bl_place hxb
  have hpl := hc_place ys K (by omega) hb
  rw [hx] at hpl
  have hSc := hc_sum ys hb
  rw [hn] at hSc
  obtain ⟨mn, hmn⟩ := IsMin.ex (l := ys) (by omega)
  obtain ⟨mx, hmx⟩ := IsMax.ex (l := ys) (by omega)
  have mnb := hb mn hmn.1
  have mxb := hb mx hmx.1
  have hbt : Btw mn mx ys := fun y hy => ⟨hmn.2 y hy, hmx.2 y hy⟩
  have me := tt_mean hbt (by omega)
  rw [hS, hn] at me
  have fr := frun_btw (s := 8) (by omega) (by omega) (by omega) hbt
  have c2 := cnt_sum (t := T) (by omega) hb
  rw [hS] at c2
  have c1 := cnt_bd T ys
  rw [hn] at c1
  have c3 : cnt T ys ≤ S / T := (Int.le_ediv_iff_mul_le (by omega)).2 c2
  have m1 : cnt T ys ≤ markov n S T := by unfold markov; split <;> omega
  have m2 : cnt T ys ≤ cant n S X T := cant_cnt (by rw [hn]) hS hsp
  exact ⟨cnt T ys, markov n S T, cant n S X T, S / n, lo, hi, x, frun 8 ys, mn, mx, ⟨m1, m2, me.1, me.2, l1, l2, fr.1, fr.2, by omega, by omega, by omega, by omega⟩,
    Lib.hid (fun A c w' h => sof_ok A n c ys S Q w' h hm hb hS hQ), Lib.hid (fun A c w' h => count_ok A n c ys T _ w' h hm hb rfl), Lib.hid (fun w' => markov_ok n S Q T _ ok (by omega) (by omega) rfl w'), Lib.hid (fun w' => cant_ok n S Q X T _ ok hX (by omega) rfl w'),
    Lib.hid (fun w' => mean_ok n S Q _ ok (by omega) rfl w'),
    Lib.hid (fun w' => between_ok (hc ys) 1 2 ((K : Int) + 1) n (bl x) w' (hc_len _) (hc_btw _ (by omega)) (by omega) (by omega) hSc (by omega) (by omega) hK (bl_lt hxb) hpl.1 hpl.2 lo hi hlh),
    Lib.hid (fun A c w' h => rank_ok A n c ys 1 2 x K w' h h0 hm hb (by omega) (by omega) hK hKn hx), Lib.hid (fun A c w' h => run_ok A n c ys 8 _ w' h.1 h0 h.2.1 h.2.2.1 hm hb (by omega) (by omega) rfl),
    Lib.hid (fun A c w' h => min_ok A n c ys mn w' h h0 (by omega) hmn), Lib.hid (fun A c w' h => max_ok A n c ys mx w' h h0 (by omega) hmx)⟩

set_option maxRecDepth 100000 in
set_option maxHeartbeats 16000000 in
theorem topTails_walk (a : Option Addr) (len cap : Nat) (l : List Int) (t : Int) (w : World) (hin : InRow w a len cap l) (_ : (Lit.int .i64 t).wf = true) :
    Calls Try.prog 14 #[.slice a len cap, .int .i64 t] w fun e w' =>
      e = .returned (.bool true) ∧ Below w.heap.size w w' := by
  obtain ⟨ys, n, S, Q, X, hy, hn, hm, hb, hS, hQ, hX, hsp, ok⟩ := stat_pack l
  obtain ⟨hr, hcp, hmx, hnil⟩ := hin
  unfold maxLen at hmx
  have hll := hr.len
  have hvl := vals_len l
  rw [hy, hn, hll] at hvl
  have hmin : min (len : Int) 64 = (n : Int) := by omega
  have hnl : n ≤ len := by omega
  have nl' : (n : Int) ≤ len := by omega
  have nc' : (n : Int) ≤ cap := by omega
  have b1 := within_bd t (n := 33554432) (by omega)
  obtain ⟨P, e_P⟩ : ∃ z_, within t 33554432 = z_ := ⟨_, rfl⟩
  rw [e_P] at b1
  have HP := Lib.hid e_P
  clear e_P
  have HPk := Lib.hid (fun h0 : 0 < n => tails_pack ys n S Q X (1 + P) h0 hn hm hb hS hQ hX hsp ok (by omega))
  have hG : ∀ k, k < n → ys.getD k 0 = within (l.getD k 0) 16777217 := fun k hk => by rw [← hy]; exact vals_get (by rw [hy, hn]; exact hk)
  obtain ⟨hz48, hi48⟩ := zero_of_info info48
  rw [hc_zero] at hz48
  obtain ⟨Z, hZ⟩ : ∃ Z, hv (hc []) = Z := ⟨_, rfl⟩
  rw [hZ] at hz48
  obtain ⟨Hf, hHf⟩ : ∃ f : Nat → Array Value, f = fun k => hv (hc (ys.take k)) := ⟨_, rfl⟩
  have pH : ∀ k, k < n → ∀ w, Calls Try.prog 37 #[.agg (Hf k), .int .i64 (ys.getD k 0)] w fun e w' => e = .returned (.tuple #[.agg (Hf (k + 1)), .int .i64 0]) ∧ Below w.heap.size w w' := fun k hk w => by
    have h := hput_hc (ys.take k) (ys.getD k 0) w (by simp; omega) (hb.get (by omega))
    rw [← take_snoc ys (by omega)] at h
    rw [hHf]; exact h
  have iH : ∀ k, Option.map (fun x => x.size) (Try.prog.info? 65) = some (Hf k).size := fun k => by rw [hHf]; exact hv_info _ (hc_len _)
  have sH : ∀ k, (Hf k).size = 26 := fun k => by rw [hHf]; simp only []; rw [hv_size, hc_len]
  have oH : ∀ k, (Hf k).all (·.oneCell') = true := fun k => by rw [hHf]; exact hv_one _
  have zH : Hf 0 = Z := by rw [hHf, ← hZ]; rfl
  have zs : Z.size = 26 := by rw [← hZ, hv_size, hc_len]
  have eH : Hf n = hv (hc ys) := by rw [hHf]; simp only []; rw [List.take_of_length_le (by omega)]
  have HT := Lib.hid Try.underlying65
  have HPH := Lib.hid pH
  have HIH := Lib.hid iH
  have HSH := Lib.hid sH
  have HOH := Lib.hid oH
  have HZH := Lib.hid zH
  have HZS := Lib.hid zs
  have HEH := Lib.hid eH
  have HL := Lib.hid hn
  have HG := Lib.hid hG
  have HR0 := Lib.hid hr
  have HT0 := Lib.hid (fun w => tt_begun w)
  have e1P : IntKind.i64.wrap (1 + P) = 1 + P := IntWalk.i64_in _ (by omega)
  have qa := alloc_cells
  have qf := alloc_frozens
  obtain ⟨i0, hi, hz0, hz1, hz2⟩ := info_parts info_int
  clear hr hll hvl hn hy hb hsp ok hS hQ hX hG hi48 hZ hHf pH iH sH oH zH zs eH hnil
  go_enter Try.func14, Try.ntmps14
  go_wp2_with fail
  refine (HT0.out _).mono ?_
  rintro e w1 ⟨rfl, hb1⟩
  have z1 := hb1.size
  have HB := Lib.hid (show ∀ k, k < n → ∃ b off, a = some ⟨b, off, none⟩ ∧ b < w1.heap.size ∧ w1.cell? ⟨b, off + k, none⟩ = some (.int .i64 (l.getD k 0)) from fun k hk => (HR0.out.below hb1).each k (by omega))
  have B1 := Lib.hid hb1
  have HB0 := Lib.hid (heap_alloc_last w1 (.cells Z 65))
  clear hb1
  go_wp2_with fail
  go_loopw [5, 40] (fun v i wr => ∃ (k : Nat) (A7 : Option Addr) (c7 : Nat), k ≤ n ∧ i = .int .i64 k ∧ v = .slice A7 k c7 ∧ wr.ownsRow (w1.heap.size + 1) 3 1 (.slice A7 k c7) k ((ys.take k).map (Value.int .i64)) ∧
    wr.heap[w1.heap.size]? = some (.cells (Hf k) 65 (0, 0)) ∧ Below w1.heap.size w1 wr ∧ w1.heap.size + 1 ≤ wr.heap.size) (fun _ i _ => n - (intOf i).toNat)
  case atStart => exact ⟨0, none, 0, Nat.zero_le _, rfl, rfl, World.ownsRow_nil _ _ _ _, by rw [HZH.out]; exact HB0.out, (Below.refl _ _).alloc (Nat.le_refl _) _, by simp⟩
  case round =>
    obtain ⟨k, A7, c7, hk, rfl, rfl, hown, hblk, bel, hsz⟩ := hrel
    by_cases hlt : k < n
    · obtain ⟨bkx, offx, hAx, ltx, hrx⟩ := HB.out k hlt
      subst hAx
      replace hrx := (bel.cell (p := ⟨bkx, offx + k, none⟩) ltx).trans hrx
      obtain ⟨x, hvx, hxx⟩ := name_num hrx
      have HX := Lib.hid hvx
      clear hvx hrx
      obtain ⟨y, hyv⟩ : ∃ y, y = within x 16777217 := ⟨_, rfl⟩
      have HY := Lib.hid hyv
      have hyk : ys.getD k 0 = y := by rw [HG.out k hlt, ← HX.out, ← HY.out]
      have htk : List.take (k + 1) ys = List.take k ys ++ [y] := by rw [take_snoc _ (by have := HL.out; omega), hyk]
      have PH := Lib.hid (fun w => hyk ▸ HPH.out k hlt w)
      have HTk := Lib.hid htk
      have HBk := Lib.hid hblk
      have OV := Lib.hid hown
      have BL := Lib.hid bel
      clear hyv htk hyk hown hblk bel
      go_wp2_with fail
      refine (within_any x 16777217 y _ (by omega) (by omega) HY.out.symm).mono ?_
      rintro e w' ⟨rfl, rfl⟩
      go_wp2_with (refine wpList_load_row rfl _ _ rfl w1.heap.size rfl _ (Hf k) (0, 0) _ HBk.out HT.out rfl (HIH.out k) ?_)
      refine (PH.out _).mono ?_
      rintro e w5 ⟨rfl, hb5⟩
      have z5 := hb5.size
      have hk6 := (hb5.block w1.heap.size (by omega)).trans HBk.out
      have ow5 := own_below OV.out hb5
      have bel5 : Below w1.heap.size w1 w5 := BL.out.trans (hb5.mono (by omega))
      have hl5 := heap_alloc_last w5 (.cells Z 65)
      have HB5 := Lib.hid hl5
      have bX : Below w5.heap.size w5 ((w5.alloc (.cells Z 65)).setRow w5.heap.size (Hf (k + 1))) := setRow_below' ((Below.refl _ _).alloc (Nat.le_refl _) _) (Nat.le_refl _) _
      have X1 := Lib.hid ((bX.block w1.heap.size (by omega)).trans hk6)
      have X2 := Lib.hid (setRow_at' (cs := Hf (k + 1)) hl5)
      have X3 := Lib.hid (own_below ow5 bX)
      have X4 := Lib.hid (bel5.trans (bX.mono (by omega)))
      have X5 := setRow_size (w5.alloc (.cells Z 65)) w5.heap.size (Hf (k + 1))
      rw [World.size_alloc] at X5
      clear hk6 ow5 bel5 hl5 bX hb5
      go_wp2_with (refine wpList_store_row rfl _ _ _ rfl w5.heap.size (Hf (k + 1)) rfl rfl _ _ HB5.out (HIH.out (k + 1)) (by rw [HZS.out, HSH.out]) (HOH.out (k + 1)) ?_)
      clear HB5
      obtain ⟨w6, hw6⟩ : ∃ w6, (w5.alloc (.cells Z 65)).setRow w5.heap.size (Hf (k + 1)) = w6 := ⟨_, rfl⟩
      rw [hw6] at X1 X2 X3 X4 X5 ⊢
      clear hw6
      have l6 : w5.heap.size < w6.heap.size := by omega
      clear X5
      refine wp_region_M (fun w' => w'.heap[w5.heap.size]? = some (.cells (Hf (k + 1)) 65 (0, 0))) (fun j => j == 6) 7 rfl (by kernel_rfl) ?_
      have hH : w6.drew.heap[w5.heap.size]? = some (.cells (Hf (k + 1)) 65 (0, 0)) := X2.out
      (refine wpAnyM_take (i := 0) (v := ?_) rfl (by kernel_rfl) (by kernel_rfl) (by kernel_rfl) (by kernel_rfl) (fun _ _ _ h => h) (Or.inl ⟨by rfl, ?_⟩) hH ?_; (rotate_left; (intro w hSw; (try dsimp only at hSw); go_simp; try with_reducible rfl)); (try simp only [Act.put, List.setIfInBounds_toArray, List.set_cons_zero, List.set_cons_succ]))
      (refine wpAnyM_take (i := 1) (v := ?_) rfl (by kernel_rfl) (by kernel_rfl) (by kernel_rfl) (by kernel_rfl) (fun _ _ _ h => h) (Or.inl ⟨by rfl, ?_⟩) hH ?_; (rotate_left; (intro w hSw; (try dsimp only at hSw); go_simp; try with_reducible rfl)); (try simp only [Act.put, List.setIfInBounds_toArray, List.set_cons_zero, List.set_cons_succ]))
      refine wpAnyM_take (i := 4) (v := .agg (Hf (k + 1))) rfl (by kernel_rfl) (by kernel_rfl) (by kernel_rfl) (by kernel_rfl) (fun _ _ _ h => h) (Or.inl ⟨by rfl, fun w hSw => exec_load_row 65 _ rfl w5.heap.size rfl _ (Hf (k + 1)) (0, 0) _ hSw HT.out rfl (HIH.out (k + 1))⟩) hH ?_
      try simp only [Act.put, List.setIfInBounds_toArray, List.set_cons_zero, List.set_cons_succ]
      refine wpAnyM_one (i := 2) (by kernel_rfl) rfl (fun K hK => ?_)
      go_simp
      refine hK _ _ (fun _ => (Below.heap_alloc _ _ _ (by omega)).trans X2.out) ?_
      clear hK K
      refine wpAnyM_one (i := 3) (by kernel_rfl) rfl (fun K hK => ?_)
      refine step_append_lies _ (by rfl) _ _ _ (by rfl) (w1.heap.size + 1) 3 i0 _ 1 8 Try.underlying32 hi hz0 hz1 hz2 rfl (by omega) _ k ((List.take k ys).map (Value.int .i64)) (by rfl) ((X3.out.alloc _).drew)
        ⟨w6.heap.size, 0, none⟩ 1 1 [.int .i64 y] (by rfl) (by rfl) (World.news_of_block (cs := #[.int .i64 y]) (t := 3) (fr := (0, 0)) (heap_alloc_new w6 _)) (app1_one _ _)
        (by omega) (by unfold maxLen; omega) (by omega) (by simp; omega) (w6.heap.size + 1) (by simp) ?_
      intro gg cap' wq ownq grq atq ltq
      have hnb : ∀ b, b < w6.heap.size → (b < w1.heap.size + 1 ∨ b = w5.heap.size) → wq.heap[b]? = w6.heap[b]? := fun b hb hc => (grq.block b (by simp; omega) (fun e => by have h1 := OV.out.lt _ e.symm; have h2 := X3.out.lt _ e.symm; omega)).trans (Below.heap_alloc w6 _ b (by omega))
      have m1 : wq.heap[w5.heap.size]? = some (.cells (Hf (k + 1)) 65 (0, 0)) := (hnb _ (by omega) (Or.inr rfl)).trans X2.out
      have m2 : wq.heap[w1.heap.size]? = some (.cells (Hf k) 65 (0, 0)) := (hnb _ (by omega) (Or.inl (by omega))).trans X1.out
      have ownq2 : wq.ownsRow (w1.heap.size + 1) 3 1 (.slice (some ⟨gg, 0, none⟩) (k + 1) cap') (k + 1) ((List.take (k + 1) ys).map (Value.int .i64)) := by rw [HTk.out]; simpa [List.map_append, List.map_take] using ownq
      have OQ := Lib.hid (own_setRow ownq2 (b := w1.heap.size) (by omega) (Hf (k + 1)))
      have BQ := Lib.hid (setRow_below' (cs := Hf (k + 1)) (((X4.out.alloc (by omega) _).drew).grown grq (by simp; omega) (fun g e => by have := (X3.out.lt g e).1; omega)) (Nat.le_refl w1.heap.size))
      have RQ := Lib.hid (setRow_at' (cs := Hf (k + 1)) m2)
      have M2 := Lib.hid m2
      have zq := grq.size
      simp only [World.size_alloc, World.size_drew] at zq
      have SQ := Lib.hid (setRow_size wq w1.heap.size (Hf (k + 1)))
      refine hK _ _ (fun _ => m1) ?_
      clear hK K hnb ownq ownq2 grq atq m2
      (refine wpAnyM_take (i := 5) (v := ?_) rfl (by kernel_rfl) (by kernel_rfl) (by kernel_rfl) (by kernel_rfl) (fun _ _ _ h => h) (Or.inl ⟨by rfl, ?_⟩) m1 ?_; (rotate_left; (intro w hSw; (try dsimp only at hSw); go_simp; try with_reducible rfl)); (try simp only [Act.put, List.setIfInBounds_toArray, List.set_cons_zero, List.set_cons_succ]))
      refine wpAnyM_one (i := 6) (by kernel_rfl) rfl (fun K hK => ?_)
      refine wp_store_row _ _ _ rfl w1.heap.size (Hf (k + 1)) (by simp [Act.eval, Act.put]) (by simp [Act.eval, Act.put]) _ _ M2.out (HIH.out (k + 1)) (by rw [HSH.out, HSH.out]) (HOH.out (k + 1)) (hK _ _ (fun h => by cases h) ?_)
      clear hK K
      refine wpAnyM_done (by kernel_rfl) ?_ _
      go_wp2_with fail
      go_roundw
      case rel => exact ⟨k + 1, some ⟨gg, 0, none⟩, cap', by omega, by go_num, rfl, OQ.out, RQ.out, BQ.out, by rw [SQ.out]; omega⟩
      case measure => simp [intOf]; omega
    · obtain rfl : n = k := by omega
      rw [List.take_of_length_le (by have := HL.out; omega)] at hown
      obtain ⟨w5, rfl⟩ : ∃ z : World, z = wr := ⟨_, rfl⟩
      have R5 := Lib.hid (Row.of_own hown)
      have I5 := Lib.hid (own_inRow hown)
      have K5 := Lib.hid hblk
      have L5 := Lib.hid (show Below w.heap.size w w5 from B1.out.trans (bel.mono z1))
      have z5 : w.heap.size ≤ w5.heap.size := by omega
      have l5 : w1.heap.size < w5.heap.size := by omega
      clear hown bel hblk hlt hk HPH HB HB0
      by_cases h0 : 0 < n
      · have n0 : ((n : Int) == 0) = false := by simp; omega
        obtain ⟨C, MA, CA, M, lo', hi', x, f, mn, mx, ⟨i1, i2, i3, i4, i5, i6, i7, i8, i9, i10, i11, i12⟩, HOf, HCn, HMk, HCt, HMe, HBt, HRk, HRu, HMn, HMx⟩ := HPk.out h0
        have v1 : IntKind.i64.wrap (256 * mn) = 256 * mn := IntWalk.i64_in _ (by omega)
        have v2 : IntKind.i64.wrap (256 * mx) = 256 * mx := IntWalk.i64_in _ (by omega)
        clear h0
        go_wp2_with fail
        refine (within_any t 33554432 P _ (by omega) (by omega) HP.out).mono ?_
        rintro e w' ⟨rfl, rfl⟩
        go_wp2_with fail
        refine (HOf.out _ _ _ R5.out).mono ?_
        rintro e w6 ⟨rfl, hb6⟩
        have z6 := hb6.size
        have c6 := Below.cells hb6
        have f6 := Below.frozens hb6
        try simp only [World.size_alloc, World.size_setCell, World.size_drew] at z6 c6 f6
        go_wp2_with fail
        refine (HCn.out A7 c7 _ (R5.out.below (by repeat (first | (with_reducible exact Below.refl _ _) | ((with_reducible refine Below.alloc ?_ ?_ _); rotate_left; (next => ((try dsimp only); (try simp only [World.size_alloc, World.size_setCell, World.size_drew]); omega))) | ((with_reducible refine Below.setCell ?_ ?_ _); rotate_left; (next => ((try dsimp only); (try simp only [World.size_alloc, World.size_setCell, World.size_drew]); omega))) | (with_reducible refine Below.drew ?_) | ((with_reducible refine Below.trans ?_ (Below.mono hb6 ?_)); rotate_left; (next => ((try dsimp only); (try simp only [World.size_alloc, World.size_setCell, World.size_drew]); omega))))))).mono ?_
        rintro e w' ⟨rfl, rfl⟩
        go_wp2_with fail
        refine (HMk.out _).mono ?_
        rintro e w7 ⟨rfl, hb7⟩
        have z7 := hb7.size
        have c7 := Below.cells hb7
        have f7 := Below.frozens hb7
        try simp only [World.size_alloc, World.size_setCell, World.size_drew] at z7 c7 f7
        go_wp2_with fail
        refine (HCt.out _).mono ?_
        rintro e w8 ⟨rfl, hb8⟩
        have z8 := hb8.size
        have c8 := Below.cells hb8
        have f8 := Below.frozens hb8
        try simp only [World.size_alloc, World.size_setCell, World.size_drew] at z8 c8 f8
        go_wp2_with fail
        refine (HMe.out _).mono ?_
        rintro e w9 ⟨rfl, hb9⟩
        have z9 := hb9.size
        have D9 := Lib.hid (show Below w5.heap.size w5 w9 from (by repeat (first | (with_reducible exact Below.refl _ _) | ((with_reducible refine Below.alloc ?_ ?_ _); rotate_left; (next => ((try dsimp only); (try simp only [World.size_alloc, World.size_setCell, World.size_drew]); omega))) | ((with_reducible refine Below.setCell ?_ ?_ _); rotate_left; (next => ((try dsimp only); (try simp only [World.size_alloc, World.size_setCell, World.size_drew]); omega))) | (with_reducible refine Below.drew ?_) | ((with_reducible refine Below.trans ?_ (Below.mono hb9 ?_)); rotate_left; (next => ((try dsimp only); (try simp only [World.size_alloc, World.size_setCell, World.size_drew]); omega))) | ((with_reducible refine Below.trans ?_ (Below.mono hb8 ?_)); rotate_left; (next => ((try dsimp only); (try simp only [World.size_alloc, World.size_setCell, World.size_drew]); omega))) | ((with_reducible refine Below.trans ?_ (Below.mono hb7 ?_)); rotate_left; (next => ((try dsimp only); (try simp only [World.size_alloc, World.size_setCell, World.size_drew]); omega))) | ((with_reducible refine Below.trans ?_ (Below.mono hb6 ?_)); rotate_left; (next => ((try dsimp only); (try simp only [World.size_alloc, World.size_setCell, World.size_drew]); omega))))))
        have K9 := Lib.hid ((D9.out.block w1.heap.size l5).trans K5.out)
        have z9' : w5.heap.size ≤ w9.heap.size := D9.out.size
        have E9 := HEH.out
        clear hb6 hb7 hb8 hb9 z6 z7 z8 z9 c6 f6 c7 f7 c8 f8
        go_wp2_with (refine wpList_load_row rfl _ _ rfl w1.heap.size rfl _ (Hf n) (0, 0) _ K9.out HT.out rfl (HIH.out n) ?_)
        refine (HBt.out _).mono ?_
        rintro e w10 ⟨rfl, hb10⟩
        have z10 := hb10.size
        have c10 := Below.cells hb10
        have f10 := Below.frozens hb10
        try simp only [World.size_alloc, World.size_setCell, World.size_drew] at z10 c10 f10
        go_wp2_with fail
        have D10 := Lib.hid (D9.out.trans (hb10.mono z9'))
        refine (HRk.out A7 c7 _ (R5.out.below D10.out)).mono ?_
        rintro e w11 ⟨rfl, hb11⟩
        have z11 := hb11.size
        have c11 := Below.cells hb11
        have f11 := Below.frozens hb11
        try simp only [World.size_alloc, World.size_setCell, World.size_drew] at z11 c11 f11
        go_wp2_with fail
        have D11 := Lib.hid (D10.out.trans (hb11.mono (by omega)))
        refine (HRu.out A7 c7 _ (I5.out.below D11.out)).mono ?_
        rintro e w' ⟨rfl, rfl⟩
        go_wp2_with fail
        have D12 := Lib.hid (show ∀ o, Below w5.heap.size w5 (w11.alloc o) from fun o => D11.out.alloc D11.out.size o)
        refine wp_loop_rounds 9 ?_
        iterate 9 (rw [rounds_succ]; go_wp2_with fail)
        refine (HMn.out A7 c7 _ (R5.out.below (D12.out _))).mono ?_
        rintro e w' ⟨rfl, rfl⟩
        go_wp2_with fail
        refine (HMx.out A7 c7 _ (R5.out.below (D12.out _))).mono ?_
        rintro e w' ⟨rfl, rfl⟩
        go_wp2_with fail
        go_ret
        exact ⟨by simp [*], L5.out.trans ((D12.out _).mono z5)⟩
      · have n0 : ((n : Int) == 0) = true := by simp; omega
        go_wp2_with fail
        go_ret
        exact ⟨rfl, L5.out⟩
end Go.Proofs.Ytlnagfmaiabhaaa
