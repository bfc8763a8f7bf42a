/-
  hist.Join.
-/
import Derived.Test.YtlnagfmaiabhaaaHi
set_option linter.unusedSimpArgs false
set_option linter.unusedVariables false
namespace Go.Proofs.Ytlnagfmaiabhaaa
open Go.RowKit
def mix (k : Nat) (s l : List Int) : List Int := s.take k ++ l.drop k
theorem mix_len {k : Nat} {s l : List Int} (hs : s.length = 26) (hl : l.length = 26) (hk : k ≤ 26) : (mix k s l).length = 26 := by simp [mix, hs, hl]; omega
theorem mix_get {k : Nat} {s l : List Int} (hs : s.length = 26) (hk : k ≤ 26) : (mix k s l).getD k 0 = l.getD k 0 := by
  simp [mix, List.getD, List.getElem?_append, List.length_take, hs, show min k 26 = k by omega]
theorem mix_zero (s l : List Int) : mix 0 s l = l := by simp [mix]
theorem mix_end {s l : List Int} (hs : s.length = 26) (hl : l.length = 26) : mix 26 s l = s := by
  simp [mix, List.take_of_length_le (show s.length ≤ 26 by omega), List.drop_of_length_le (show l.length ≤ 26 by omega)]
theorem mix_set {k : Nat} {s l : List Int} (hs : s.length = 26) (hl : l.length = 26) (hk : k < 26) : (mix k s l).set k (s.getD k 0) = mix (k + 1) s l := by
  apply List.ext_getElem?
  intro i
  have ht : (s.take k).length = k := by rw [List.length_take]; omega
  have ht' : (s.take (k + 1)).length = k + 1 := by rw [List.length_take]; omega
  simp only [mix, List.getElem?_set, List.getElem?_append, ht, ht', List.length_append, List.length_drop, List.getElem?_take, List.getElem?_drop]
  by_cases h1 : k = i
  · subst h1
    simp [List.getD, show k < s.length by omega, show k < k + 1 by omega]
    omega
  · rw [if_neg h1]
    by_cases h2 : i < k
    · simp [h2, show i < k + 1 by omega]
    · rw [if_neg h2, if_neg (show ¬ i < k + 1 by omega)]
      congr 1; omega

set_option maxHeartbeats 4000000 in
set_option maxRecDepth 100000 in
theorem hjoin_ok (l m s : List Int) (w : World) (hl : l.length = 26) (hm : m.length = 26) (hs : s.length = 26) (hb : Btw 0 1073741824 l) (hbm : Btw 0 1073741824 m) (hbs : Btw 0 1073741824 s)
    (hsum : ∀ k, k < 26 → l.getD k 0 + m.getD k 0 = s.getD k 0) :
    Calls Try.prog 39 #[.agg (hv l), .agg (hv m)] w fun e w' => e = .returned (.tuple #[.agg (hv s), .int .i64 0]) ∧ Below w.heap.size w w' := by
  obtain ⟨_, hi46⟩ := zero_of_info info46
  obtain ⟨hz48, hi48⟩ := zero_of_info info48
  have t46 := Try.underlying63
  have HT := Lib.hid Try.underlying65
  have HT46 := Lib.hid t46
  have HC := Lib.hid (fun w => hcheck_ok l w hl hb)
  have HD := Lib.hid (fun w => hcheck_ok m w hm hbm)
  have hsz : ∀ l : List Int, l.length = 26 → (hv l).size = 26 := fun l hl => by rw [hv_size, hl]
  have hi : ∀ l : List Int, l.length = 26 → Option.map (fun x => x.size) (Try.prog.info? 65) = some (hv l).size := fun l hl => by rw [hsz l hl]; exact hi48
  have HI := Lib.hid (hi l hl)
  have HIM := Lib.hid (hi m hm)
  have HIS := Lib.hid (hi s hs)
  have HIM46 := Lib.hid (show Option.map (fun x => x.size) (Try.prog.info? 63) = some (hv m).size by rw [hsz m hm]; exact hi46)
  have HZ := Lib.hid (show (Array.replicate 26 (Value.int .i64 0)).size = (hv s).size by rw [hsz s hs]; simp)
  have hmix : ∀ k, k < 26 → (hv (mix k s l))[k]? = some (.int .i64 (l.getD k 0)) := fun k hk => by rw [hv_get _ (by rw [mix_len hs hl (by omega)]; omega), mix_get hs (by omega)]
  have hset : ∀ k, k < 26 → (hv (mix k s l)).setIfInBounds k (.int .i64 (s.getD k 0)) = hv (mix (k + 1) s l) := fun k hk => by rw [hv_set, mix_set hs hl hk]
  have hmg : ∀ k, k < 26 → (hv m)[k]? = some (.int .i64 (m.getD k 0)) := fun k hk => hv_get m (by omega)
  have hbk : ∀ k, k < 26 → 0 ≤ s.getD k 0 ∧ s.getD k 0 ≤ 1073741824 := fun k hk => hbs.get (by omega)
  have HMix := Lib.hid hmix
  have HSet := Lib.hid hset
  have HMG := Lib.hid hmg
  have HBK := Lib.hid hbk
  have HSum := Lib.hid hsum
  have HZero := Lib.hid (mix_zero s l)
  have HEnd := Lib.hid (mix_end hs hl)
  obtain ⟨c, hc⟩ : ∃ c, hv l = c := ⟨_, rfl⟩
  obtain ⟨cm, hcm⟩ : ∃ c, hv m = c := ⟨_, rfl⟩
  obtain ⟨d, hd⟩ : ∃ d, hv s = d := ⟨_, rfl⟩
  have HOne := Lib.hid (hv_one s)
  have HCC := Lib.hid hc
  have HDD := Lib.hid hd
  rw [hc] at HC HI
  rw [hcm] at HD HIM HIM46 HMG
  rw [hd] at HIS HZ HOne
  rw [hc, hcm, hd]
  have qa := alloc_cells
  have qf := alloc_frozens
  clear hi46 hi48 hi hmix hset hmg hbk hsum hc hcm hd hb hbm hbs hsz hl hm hs
  obtain ⟨Z, hZ⟩ : ∃ Z, Array.replicate 26 (Value.int .i64 0) = Z := ⟨_, rfl⟩
  rw [hZ] at hz48 HZ
  clear hZ
  go_enter Try.func39, Try.ntmps39
  obtain ⟨W, hW⟩ : ∃ W, ((w.alloc (.cells c 65)).alloc (.cells cm 65)).alloc (.cells Z 65) = W := ⟨_, rfl⟩
  have hld : W.heap[w.heap.size]? = some (.cells c 65 (0, 0)) := by
    rw [← hW, Below.heap_alloc _ _ _ (by simp; omega), Below.heap_alloc _ _ _ (by simp)]; exact heap_alloc_last _ _
  have hld1 : W.heap[w.heap.size + 1]? = some (.cells cm 65 (0, 0)) := by
    rw [← hW, Below.heap_alloc _ _ _ (by simp)]
    have := heap_alloc_last (w.alloc (.cells c 65)) (.cells cm 65)
    rwa [World.size_alloc] at this
  have hld2 : W.heap[w.heap.size + 1 + 1]? = some (.cells Z 65 (0, 0)) := by
    rw [← hW]
    have := heap_alloc_last ((w.alloc (.cells c 65)).alloc (.cells cm 65)) (.cells Z 65)
    rwa [World.size_alloc, World.size_alloc] at this
  have hb2 : Below w.heap.size w W := by rw [← hW]; exact (((Below.refl _ _).alloc (Nat.le_refl _) _).alloc (by simp) _).alloc (by simp; omega) _
  have sz2 : W.heap.size = w.heap.size + 3 := by rw [← hW]; simp
  have HL := Lib.hid hld
  have HL1 := Lib.hid hld1
  have HL2 := Lib.hid hld2
  have HB2 := Lib.hid hb2
  have HW := Lib.hid hW
  clear hld hld1 hld2 hb2 hW
  go_wp2_with (first | (rw [HW.out]; refine wpList_load_row rfl _ _ rfl w.heap.size rfl _ c (0, 0) _ HL.out HT.out rfl HI.out ?_) | (refine wpList_load_row rfl _ _ rfl w.heap.size rfl _ c (0, 0) _ HL.out HT.out rfl HI.out ?_))
  refine (HC.out W).mono ?_
  rintro e w3 ⟨rfl, hb3⟩
  have z3 := hb3.size
  have H13 := Lib.hid ((hb3.block (w.heap.size + 1) (by omega)).trans HL1.out)
  go_wp2_with (refine wpList_load_row rfl _ _ rfl (w.heap.size + 1) rfl _ cm (0, 0) _ H13.out HT.out rfl HIM.out ?_)
  refine (HD.out w3).mono ?_
  rintro e w4 ⟨rfl, hb4⟩
  have z4 := hb4.size
  have bel4 : Below W.heap.size W w4 := hb3.trans (hb4.mono z3)
  have H04 := Lib.hid ((bel4.block w.heap.size (by omega)).trans HL.out)
  have H14 := Lib.hid ((bel4.block (w.heap.size + 1) (by omega)).trans HL1.out)
  have H24 := Lib.hid ((bel4.block (w.heap.size + 1 + 1) (by omega)).trans HL2.out)
  have bel5 : Below w.heap.size w w4 := HB2.out.trans (bel4.mono (by omega))
  clear bel4 hb3 hb4 H13
  go_wp2_with (refine wpList_load_row rfl _ _ rfl (w.heap.size + 1) rfl _ cm (0, 0) _ H14.out HT46.out rfl HIM46.out ?_)
  go_loopw [24] (fun i wr => ∃ k : Nat, k ≤ 26 ∧ i = .int .i64 k ∧ Below w.heap.size w wr ∧ w4.heap.size ≤ wr.heap.size ∧ wr.heap[w.heap.size]? = some (.cells (hv (mix k s l)) 65 (0, 0)) ∧ wr.heap[w.heap.size + 1 + 1]? = some (.cells Z 65 (0, 0))) (fun i _ => 26 - (intOf i).toNat)
  case atStart => exact ⟨0, Nat.zero_le _, rfl, bel5, Nat.le_refl _, by rw [HZero.out, HCC.out]; exact H04.out, H24.out⟩
  case round =>
    obtain ⟨k, hk, rfl, bel, hsz, h0, h2⟩ := hrel
    have H2 := Lib.hid h2
    by_cases hlt : k < 26
    · have hcell := cell_of_row _ _ k _ _ _ h0
      rw [HMix.out k hlt] at hcell
      have hfz : wr.frozen? ⟨w.heap.size, k, none⟩ = false := by simp [World.frozen?, h0]
      have hmk := HMG.out k hlt
      have hsk := HSum.out k hlt
      have hbk := HBK.out k hlt
      have hst := HSet.out k hlt
      obtain ⟨x, hx⟩ : ∃ x, l.getD k 0 = x := ⟨_, rfl⟩
      obtain ⟨y, hy⟩ : ∃ x, m.getD k 0 = x := ⟨_, rfl⟩
      obtain ⟨z, hz⟩ : ∃ x, s.getD k 0 = x := ⟨_, rfl⟩
      rw [hx] at hcell hsk
      rw [hy] at hmk hsk
      rw [hz] at hsk hbk hst
      have hw1 : IntKind.i64.wrap (x + y) = z := by rw [hsk]; exact IntWalk.i64_in _ (by omega)
      have hix := run_index26 wr cm k y hlt hmk
      have z1 : ¬ 1073741824 < z := by omega
      have H0 := Lib.hid h0
      have HSt := Lib.hid hst
      have k0 : (0 : Int) ≤ k := by omega
      have k1 : (k : Int) < 26 := by omega
      clear h0 h2 hx hy hz hst hmk
      go_wp2_with fail
      go_roundw
      case rel => exact ⟨k + 1, by omega, by go_num, bel.setCell (Nat.le_refl _) _, by simp; omega, by rw [setCell_at H0.out, HSt.out], by rw [Below.heap_setCell _ _ _ _ (by show ¬ _ = w.heap.size; omega)]; exact H2.out⟩
      case measure => simp [intOf]; omega
    · obtain rfl : k = 26 := by omega
      rw [HEnd.out, HDD.out] at h0
      have H0 := Lib.hid h0
      clear h0 h2
      go_wp2_with (first | (refine wpList_load_row rfl _ _ rfl w.heap.size rfl _ d (0, 0) _ H0.out HT.out rfl HIS.out ?_) | (refine wpList_store_row rfl _ _ _ rfl (w.heap.size + 1 + 1) d rfl rfl _ _ H2.out HIS.out HZ.out HOne.out ?_))
      have hres := run_loadVar_row (P := Try.prog) _ _ _ 65 d (0, 0) _ (setRow_at' (cs := d) H2.out) HT.out rfl HIS.out
      refine bodyPost_ret (v := .tuple #[.agg d, .int .i64 0]) (results_cell_two rfl rfl hres rfl) rfl ⟨rfl, ?_⟩
      exact setRow_below' bel (by omega) _
end Go.Proofs.Ytlnagfmaiabhaaa
