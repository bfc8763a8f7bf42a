import Derived.Test.YtlnagfmaiabhaaaHd
import Derived.Test.YtlnagfmaiabhaaaQV
import Derived.Test.YtlnagfmaiabhaaaLranksorts
import Derived.Test.YtlnagfmaiabhaaaLrankpart
set_option linter.unusedSimpArgs false
set_option linter.unusedVariables false
namespace Go.Proofs.Ytlnagfmaiabhaaa
open Go Go.RowKit
set_option maxRecDepth 100000 in
set_option maxHeartbeats 16000000 in
theorem histCounts_walk (a : Option Addr) (len cap : Nat) (l : List Int) (r p q c : Int) (w : World) (hin : InRow w a len cap l) (_ : (Lit.int .i64 r).wf = true) (_ : (Lit.int .i64 p).wf = true) (_ : (Lit.int .i64 q).wf = true) (_ : (Lit.int .i64 c).wf = true) :
    Calls Try.prog 13 #[.slice a len cap, .int .i64 r, .int .i64 p, .int .i64 q, .int .i64 c] w fun e w' =>
      e = .returned (.bool true) ∧ Below w.heap.size w w' := by
  obtain ⟨ys, n, hy, hn, hm, hb⟩ := vals_facts l
  have hlv : ∀ w', InRow w' a len cap l → _ := fun w' h => values_at a len cap l w' h ys n hy hn
  obtain ⟨hz48, hi48⟩ := zero_of_info info48
  obtain ⟨_, hi46⟩ := zero_of_info info46
  rw [hc_zero] at hz48
  have hs0 : ∀ w, _ := fun w => hput_hc [] 5 w (by decide) (by omega)
  rw [List.nil_append] at hs0
  obtain ⟨Z, hZ⟩ : ∃ Z, hv (hc []) = Z := ⟨_, rfl⟩
  obtain ⟨F5, hF5⟩ : ∃ Z, hv (hc [5]) = Z := ⟨_, rfl⟩
  have h5 := hc_five
  have zi := hv_info (hc []) (hc_len _)
  have fi := hv_info (hc [5]) (hc_len _)
  have zs : Z.size = 26 := by rw [← hZ, hv_size, hc_len]
  have fs : F5.size = 26 := by rw [← hF5, hv_size, hc_len]
  have fo := hv_one (hc [5])
  rw [hZ] at hz48 hs0 zi
  rw [hF5] at hs0 h5 fi fo
  have HT := Lib.hid Try.underlying65
  have HT46 := Lib.hid Try.underlying63
  have HFI := Lib.hid fi
  have HFO := Lib.hid fo
  have HZF := Lib.hid (show Z.size = F5.size by omega)
  have H5 := Lib.hid h5
  have HLv := Lib.hid hlv
  have HS0 := Lib.hid hs0
  have HIn := Lib.hid hin
  have qa := alloc_cells
  have qf := alloc_frozens
  rcases Nat.eq_zero_or_pos n with h0 | h0
  · subst h0
    clear hlv hs0 hin hn hy hb fo fi h5 hi48 hi46 hZ hF5 zi
    go_enter Try.func13, Try.ntmps13
    go_wp2_with fail
    refine (HS0.out _).mono ?_
    rintro e w1 ⟨rfl, hb1⟩
    have z1 := hb1.size
    have hblk := heap_alloc_last w1 (.cells Z 65)
    have hcell := cell_hv (setRow_at' (cs := F5) hblk) 3 H5.out
    have hfz : ((w1.alloc (.cells Z 65)).setRow w1.heap.size F5).frozen? ⟨w1.heap.size, 3, none⟩ = false := frozen_row (setRow_at' (cs := F5) hblk) 3
    have HBlk := Lib.hid hblk
    clear hblk
    go_wp2_with (refine wpList_store_row rfl _ _ _ rfl w1.heap.size F5 rfl rfl _ _ HBlk.out HFI.out HZF.out HFO.out ?_)
    have belX : Below w.heap.size w ((w1.alloc (.cells Z 65)).setRow w1.heap.size F5) := setRow_below' (hb1.trans ((Below.refl _ _).alloc z1 _)) (by omega) _
    generalize (w1.alloc (.cells Z 65)).setRow w1.heap.size F5 = wX at *
    refine (HLv.out _ (HIn.out.below belX)).mono ?_
    rintro e w2 ⟨A2, c2, rfl, _, hb2⟩
    go_wp2_with fail
    go_ret
    exact ⟨rfl, belX.trans (hb2.mono belX.size)⟩
  · -- the numbers
    have n0 : ((n : Int) == 0) = false := by simp; omega
    obtain ⟨T, hT⟩ : ∃ T : Nat, within r n = (T : Int) ∧ T < n := by
      have b1 := within_bd r (n := n) (by omega)
      obtain ⟨T, hT⟩ := Int.eq_ofNat_of_zero_le b1.1
      exact ⟨T, hT, by omega⟩
    obtain ⟨M, hM⟩ : ∃ M : Nat, within c ((n : Int) + 1) = (M : Int) ∧ M ≤ n := by
      have b1 := within_bd c (n := (n : Int) + 1) (by omega)
      obtain ⟨T, hT⟩ := Int.eq_ofNat_of_zero_le b1.1
      exact ⟨T, hT, by omega⟩
    have b1 := within_bd q (n := 1000) (by omega)
    obtain ⟨Q, e_Q⟩ : ∃ z_, within q 1000 = z_ := ⟨_, rfl⟩
    rw [e_Q] at b1
    have HQ := Lib.hid e_Q
    clear e_Q
    have b2 := within_bd p (n := 1 + Q + 1) (by omega)
    obtain ⟨P, e_P⟩ : ∃ z_, within p (1 + Q + 1) = z_ := ⟨_, rfl⟩
    rw [e_P] at b2
    have HP := Lib.hid e_P
    clear e_P
    obtain ⟨K, hK, hKn, k1, k2⟩ := kth_rank n P (1 + Q) h0 (by omega) (by omega)
    obtain ⟨x, hx⟩ : ∃ x, (srt ys).getD K 0 = x := ⟨_, rfl⟩
    have hmem := kth_mem ys K (by omega)
    rw [hx] at hmem
    have hxb := hb x hmem
    obtain ⟨lo, hi, hlh, l0, l1, l2, l3, l4, l5⟩ := bl_place hxb
    have hpl := hc_place ys K (by omega) hb
    rw [hx] at hpl
    have hS := hc_sum ys hb
    rw [hn] at hS
    have hbt : ∀ w, _ := fun w => between_ok (hc ys) P (1 + Q) ((K : Int) + 1) n (bl x) w (hc_len _) (hc_btw _ (by omega)) (by omega) (by omega) hS (by omega) (by omega) hK (bl_lt hxb) hpl.1 hpl.2 lo hi hlh
    have hrk : ∀ A c w', Row w' A n ys → _ := fun A c w' h => rank_ok A n c ys P (1 + Q) x K w' h h0 hm hb (by omega) (by omega) hK hKn hx
    -- the four
    obtain ⟨ts, hts⟩ : ∃ ts, ys.drop T ++ ys.take T = ts := ⟨_, rfl⟩
    have htp : ts.Perm ys := hts ▸ rot_perm ys T
    have htn : ts.length = n := by rw [htp.length_eq, hn]
    have htk : ∀ k, k < n → ts.getD k 0 = ys.getD ((k + T) % n) 0 := fun k hk => hts ▸ rot_get ys hn hT.2 hk
    have hcong : ∀ (L L' : List Int) (x : Int) (w : World), L' = L ++ [x] → L.length ≤ 1000000 → (0 ≤ x ∧ x ≤ 16777216) → Calls Try.prog 37 #[.agg (hv (hc L)), .int .i64 x] w fun e w' => e = .returned (.tuple #[.agg (hv (hc L')), .int .i64 0]) ∧ Below w.heap.size w w' := fun L L' x w e h1 h2 => e ▸ hput_hc L x w h1 h2
    have tl : ∀ (L : List Int) k, (L.take k).length ≤ L.length := fun L k => by simp; omega
    obtain ⟨Hf, hHf⟩ : ∃ f : Nat → Array Value, f = fun k => hv (hc (ys.take k)) := ⟨_, rfl⟩
    obtain ⟨Kf, hKf⟩ : ∃ f : Nat → Array Value, f = fun k => hv (hc (ts.take k)) := ⟨_, rfl⟩
    obtain ⟨Af, hAf⟩ : ∃ f : Nat → Array Value, f = fun k => hv (hc ((ys.take M).take k)) := ⟨_, rfl⟩
    obtain ⟨Bf, hBf⟩ : ∃ f : Nat → Array Value, f = fun k => hv (hc ((ys.take k).drop M)) := ⟨_, rfl⟩
    have pH : ∀ k, k < n → ∀ w, Calls Try.prog 37 #[.agg (Hf k), .int .i64 (ys.getD k 0)] w fun e w' => e = .returned (.tuple #[.agg (Hf (k + 1)), .int .i64 0]) ∧ Below w.heap.size w w' := fun k hk w => by
      rw [hHf]; exact hcong _ _ _ _ (take_snoc ys (by omega)) (by have := tl ys k; omega) (hb.get (by omega))
    have pK : ∀ k, k < n → ∀ w, Calls Try.prog 37 #[.agg (Kf k), .int .i64 (ys.getD ((k + T) % n) 0)] w fun e w' => e = .returned (.tuple #[.agg (Kf (k + 1)), .int .i64 0]) ∧ Below w.heap.size w w' := fun k hk w => by
      rw [hKf, ← htk k hk]; exact hcong _ _ _ _ (take_snoc ts (by omega)) (by have := tl ts k; omega) (htk k hk ▸ hb.get (by have := Nat.mod_lt (k + T) (show 0 < n by omega); omega))
    have pA : ∀ k, k < n → k < M → ∀ w, Calls Try.prog 37 #[.agg (Af k), .int .i64 (ys.getD k 0)] w fun e w' => e = .returned (.tuple #[.agg (Af (k + 1)), .int .i64 0]) ∧ Below w.heap.size w w' := fun k hk hkM w => by
      have hlen : (ys.take M).length = M := by rw [List.length_take]; omega
      have hg : (ys.take M).getD k 0 = ys.getD k 0 := by simp [List.getD, List.getElem?_take, hkM]
      rw [hAf]; exact hcong _ _ _ _ (by rw [take_snoc (ys.take M) (by omega), hg]) (by have := tl (ys.take M) k; omega) (hb.get (by omega))
    have pA' : ∀ k, ¬ k < M → Af (k + 1) = Af k := fun k hkM => by
      have hl : (ys.take M).length ≤ M := by rw [List.length_take]; omega
      have h1 : (ys.take M).take (k + 1) = ys.take M := List.take_of_length_le (by omega)
      have h2 : (ys.take M).take k = ys.take M := List.take_of_length_le (by omega)
      rw [hAf]; simp only [h1, h2]
    have pB : ∀ k, k < n → ¬ k < M → ∀ w, Calls Try.prog 37 #[.agg (Bf k), .int .i64 (ys.getD k 0)] w fun e w' => e = .returned (.tuple #[.agg (Bf (k + 1)), .int .i64 0]) ∧ Below w.heap.size w w' := fun k hk hkM w => by
      rw [hBf]; exact hcong _ _ _ _ (by rw [take_snoc ys (by omega), List.drop_append_of_le_length (by rw [List.length_take]; omega)]) (by rw [List.length_drop]; have := tl ys k; omega) (hb.get (by omega))
    have pB' : ∀ k, k < M → Bf (k + 1) = Bf k := fun k hkM => by
      have h1 : (ys.take (k + 1)).length ≤ M := by rw [List.length_take]; omega
      have h2 : (ys.take k).length ≤ M := by rw [List.length_take]; omega
      rw [hBf]; simp only [List.drop_of_length_le h1, List.drop_of_length_le h2]
    have iH : ∀ k, Option.map (fun x => x.size) (Try.prog.info? 65) = some (Hf k).size := fun k => by rw [hHf]; exact hv_info _ (hc_len _)
    have iK : ∀ k, Option.map (fun x => x.size) (Try.prog.info? 65) = some (Kf k).size := fun k => by rw [hKf]; exact hv_info _ (hc_len _)
    have iA : ∀ k, Option.map (fun x => x.size) (Try.prog.info? 65) = some (Af k).size := fun k => by rw [hAf]; exact hv_info _ (hc_len _)
    have iB : ∀ k, Option.map (fun x => x.size) (Try.prog.info? 65) = some (Bf k).size := fun k => by rw [hBf]; exact hv_info _ (hc_len _)
    have sH : ∀ k, (Hf k).size = 26 := fun k => by rw [hHf]; simp only []; rw [hv_size, hc_len]
    have sK : ∀ k, (Kf k).size = 26 := fun k => by rw [hKf]; simp only []; rw [hv_size, hc_len]
    have sA : ∀ k, (Af k).size = 26 := fun k => by rw [hAf]; simp only []; rw [hv_size, hc_len]
    have sB : ∀ k, (Bf k).size = 26 := fun k => by rw [hBf]; simp only []; rw [hv_size, hc_len]
    have oH : ∀ k, (Hf k).all (·.oneCell') = true := fun k => by rw [hHf]; exact hv_one _
    have oK : ∀ k, (Kf k).all (·.oneCell') = true := fun k => by rw [hKf]; exact hv_one _
    have oA : ∀ k, (Af k).all (·.oneCell') = true := fun k => by rw [hAf]; exact hv_one _
    have oB : ∀ k, (Bf k).all (·.oneCell') = true := fun k => by rw [hBf]; exact hv_one _
    have zH : Hf 0 = Z := by rw [hHf, ← hZ]; rfl
    have zK : Kf 0 = Z := by rw [hKf, ← hZ]; rfl
    have zA : Af 0 = Z := by rw [hAf, ← hZ]; rfl
    have zB : Bf 0 = Z := by rw [hBf, ← hZ]; simp
    have eH : Hf n = hv (hc ys) := by rw [hHf]; simp only []; rw [List.take_of_length_le (by omega)]
    have eK : Kf n = hv (hc ys) := by rw [hKf]; simp only []; rw [List.take_of_length_le (by omega), hc_perm htp]
    have pJ : ∀ w, Calls Try.prog 39 #[.agg (Af n), .agg (Bf n)] w fun e w' => e = .returned (.tuple #[.agg (hv (hc ys)), .int .i64 0]) ∧ Below w.heap.size w w' := fun w => by
      have e1 : (ys.take M).take n = ys.take M := List.take_of_length_le (by rw [List.length_take]; omega)
      have e2 : (ys.take n).drop M = ys.drop M := by rw [List.take_of_length_le (by omega)]
      rw [hAf, hBf]
      simp only [e1, e2]
      have := hjoin_hc (ys.take M) (ys.drop M) w (by rw [List.length_take, List.length_drop]; omega)
      rwa [List.take_append_drop] at this
    have sn : ∀ k, k < 26 → sumI ((hc ys).take (k + 1)) = sumI ((hc ys).take k) + (hc ys).getD k 0 := fun k hk => sumI_snoc _ (by rw [hc_len]; exact hk)
    have sg : ∀ k, k < 26 → (hv (hc ys))[k]? = some (.int .i64 ((hc ys).getD k 0)) := fun k hk => hv_get _ (by rw [hc_len]; exact hk)
    have sb : ∀ k, k ≤ 26 → 0 ≤ sumI ((hc ys).take k) ∧ sumI ((hc ys).take k) ≤ n := fun k hk => by
      have hbc := hc_btw ys (by omega)
      have a := sumI_nonneg_take hbc (Nat.zero_le k) (by rw [hc_len]; omega)
      have b := sumI_nonneg_take hbc hk (by rw [hc_len]; exact Nat.le_refl _)
      rw [List.take_of_length_le (show (hc ys).length ≤ 26 by rw [hc_len]; exact Nat.le_refl _), hS] at b
      exact ⟨a, b⟩
    have se : sumI ((hc ys).take 26) = n := by rw [List.take_of_length_le (show (hc ys).length ≤ 26 by rw [hc_len]; exact Nat.le_refl _), hS]
    have heq : ∀ w, _ := fun w => hist_eq w (hc ys) (hc_len _)
    obtain ⟨E, hE⟩ : ∃ E, hv (hc ys) = E := ⟨_, rfl⟩
    have iE := hv_info (hc ys) (hc_len _)
    have sE : E.size = 26 := by rw [← hE, hv_size, hc_len]
    have oE := hv_one (hc ys)
    rw [hE] at eH eK pJ hbt sg heq iE oE
    have HPH := Lib.hid pH
    have HPK := Lib.hid pK
    have HPA := Lib.hid pA
    have HPB := Lib.hid pB
    have HPA' := Lib.hid pA'
    have HPB' := Lib.hid pB'
    have HIH := Lib.hid iH
    have HIK := Lib.hid iK
    have HIA := Lib.hid iA
    have HIB := Lib.hid iB
    have HIE := Lib.hid iE
    have HIE46 := Lib.hid (show Option.map (fun x => x.size) (Try.prog.info? 63) = some E.size by rw [sE]; exact hi46)
    have HSH := Lib.hid sH
    have HSK := Lib.hid sK
    have HSA := Lib.hid sA
    have HSB := Lib.hid sB
    have HOH := Lib.hid oH
    have HOK := Lib.hid oK
    have HOA := Lib.hid oA
    have HOB := Lib.hid oB
    have HOE := Lib.hid oE
    have HZH := Lib.hid zH
    have HZK := Lib.hid zK
    have HZA := Lib.hid zA
    have HZB := Lib.hid zB
    have HEH := Lib.hid eH
    have HEK := Lib.hid eK
    have HPJ := Lib.hid pJ
    have HBt := Lib.hid hbt
    have HRk := Lib.hid hrk
    have HT0 := Lib.hid hT
    have HM0 := Lib.hid hM
    have HSn := Lib.hid sn
    have HSg := Lib.hid sg
    have HSb := Lib.hid sb
    have HSe := Lib.hid se
    have HEq := Lib.hid heq
    have HZE := Lib.hid (show Z.size = E.size by omega)
    have hMn := hM.2
    have hTn := hT.2
    have w2 : IntKind.i64.wrap (2 * lo) = 2 * lo := IntWalk.i64_in _ (by omega)
    have HHb := Lib.hid hb
    clear hlv hs0 hin hn hy hb fo fi h5 hi48 hi46 hZ hF5 zi hT hM hK k1 k2 hx hmem hxb hlh hpl hS hbt hrk hts htp htn htk hcong tl hHf hKf hAf hBf pH pK pA pB pA' pB' iH iK iA iB sH sK sA sB oH oK oA oB zH zK zA zB eH eK pJ sn sg sb se heq hE iE oE
    go_enter Try.func13, Try.ntmps13
    go_wp2_with fail
    refine (HS0.out _).mono ?_
    rintro e w1 ⟨rfl, hb1⟩
    have z1 := hb1.size
    have hblk := heap_alloc_last w1 (.cells Z 65)
    have hcell := cell_hv (setRow_at' (cs := F5) hblk) 3 H5.out
    have hfz : ((w1.alloc (.cells Z 65)).setRow w1.heap.size F5).frozen? ⟨w1.heap.size, 3, none⟩ = false := frozen_row (setRow_at' (cs := F5) hblk) 3
    have HBlk := Lib.hid hblk
    clear hblk
    go_wp2_with (refine wpList_store_row rfl _ _ _ rfl w1.heap.size F5 rfl rfl _ _ HBlk.out HFI.out HZF.out HFO.out ?_)
    have belX : Below w.heap.size w ((w1.alloc (.cells Z 65)).setRow w1.heap.size F5) := setRow_below' (hb1.trans ((Below.refl _ _).alloc z1 _)) (by omega) _
    clear hcell hfz HBlk
    generalize (w1.alloc (.cells Z 65)).setRow w1.heap.size F5 = wX at *
    refine (HLv.out _ (HIn.out.below belX)).mono ?_
    rintro e w3 ⟨A2, c2, rfl, hr2, hb2⟩
    have bel3 : Below w.heap.size w w3 := belX.trans (hb2.mono belX.size)
    have z3 := bel3.size
    have capA2 := hr2.2.1
    have R3 := Lib.hid hr2.1
    clear hr2 hb2 belX hb1 z1
    obtain ⟨bk, off, rfl, ltb, hcr⟩ := R3.out.at h0
    have HCr := Lib.hid hcr
    clear hcr
    go_wp2_with fail
    obtain ⟨W4, hW4⟩ : ∃ W4, (((w3.alloc (.cells Z 65)).alloc (.cells Z 65)).alloc (.cells Z 65)).alloc (.cells Z 65) = W4 := ⟨_, rfl⟩
    obtain ⟨h4, bl4, sz4⟩ := Four.made hW4
    rw [hW4]
    clear hW4
    have H4 := Lib.hid h4
    have S4 := Lib.hid sz4
    clear h4 sz4
    refine (within_any c ((n : Int) + 1) M _ (by omega) (by omega) HM0.out.1).mono ?_
    rintro e w' ⟨rfl, rfl⟩
    go_wp2_with fail
    go_loopw [57] (fun i wr => ∃ k : Nat, k ≤ n ∧ i = .int .i64 k ∧ Below w3.heap.size w3 wr ∧ w3.heap.size + 4 ≤ wr.heap.size ∧ Four wr w3.heap.size 65 (Hf k) (Kf k) (Af k) (Bf k)) (fun i _ => n - (intOf i).toNat)
    case atStart => exact ⟨0, Nat.zero_le _, rfl, bl4, Nat.le_of_eq S4.out.symm, by rw [HZH.out, HZK.out, HZA.out, HZB.out]; exact H4.out⟩
    case round =>
      obtain ⟨k, hk, rfl, bel, hsz, hf⟩ := hrel
      have HF := Lib.hid hf
      clear hf
      by_cases hlt : k < n
      · obtain ⟨J, hJ⟩ : ∃ J, (k + T) % n = J := ⟨_, rfl⟩
        have hJn : J < n := by rw [← hJ]; exact Nat.mod_lt _ (by omega)
        have cv := (bel.cell (p := ⟨bk, off + k, none⟩) ltb).trans (HCr.out k hlt)
        obtain ⟨v, hv, cv'⟩ := name_num cv
        have HV := Lib.hid hv
        have PH := Lib.hid (fun w => hv ▸ HPH.out k hlt w)
        have PA := Lib.hid (fun (h : k < M) w => hv ▸ HPA.out k hlt h w)
        have PB := Lib.hid (fun (h : ¬ k < M) w => hv ▸ HPB.out k hlt h w)
        have PK := Lib.hid (fun w => hJ ▸ HPK.out k hlt w)
        clear cv hv
        go_wp2_with (refine wpList_load_row rfl _ _ rfl w3.heap.size rfl _ (Hf k) (0, 0) _ HF.out.1 HT.out rfl (HIH.out k) ?_)
        refine (PH.out _).mono ?_
        rintro e w5 ⟨rfl, hb5⟩
        have z5 := hb5.size
        have F5' := Lib.hid (HF.out.below hb5 (by omega))
        have G5 := Lib.hid (F5'.out.set0 (Hf (k + 1)))
        have B5 := Lib.hid (setRow_below' (cs := Hf (k + 1)) (bel.trans (hb5.mono bel.size)) (Nat.le_refl w3.heap.size))
        have cv5 := (hb5.cell (p := ⟨bk, off + k, none⟩) (by show bk < _; omega)).trans cv'
        clear hb5 cv'
        go_wp2_with (refine wpList_store_row rfl _ _ _ rfl w3.heap.size (Hf (k + 1)) rfl rfl _ _ F5'.out.1 (HIH.out (k + 1)) (by rw [HSH.out, HSH.out]) (HOH.out (k + 1)) ?_)
        have s6 := setRow_size w5 w3.heap.size (Hf (k + 1))
        generalize w5.setRow w3.heap.size (Hf (k + 1)) = w6 at *
        have bel6 := B5.out
        have z6 : w3.heap.size + 4 ≤ w6.heap.size := by omega
        have cy := (bel6.cell (p := ⟨bk, off + J, none⟩) ltb).trans (HCr.out J hJn)
        have cv6 := (bel6.cell (p := ⟨bk, off + k, none⟩) ltb).trans (HCr.out k hlt)
        obtain ⟨y, hy, cy'⟩ := name_num cy
        have PK' := Lib.hid (fun w => hy ▸ PK.out w)
        have e1 : IntKind.i64.wrap ((k : Int) + T) = (k : Int) + T := IntWalk.i64_in _ (by omega)
        have e3 : ((k + T : Nat) : Int) % n = (J : Int) := by rw [← hJ]; rfl
        have e4 : (k : Int) + T = ((k + T : Nat) : Int) := by omega
        have e5 : ((k : Int) + T) % n = (J : Int) := by rw [e4, e3]
        have e6 : ((k : Int) + T).tmod n = (J : Int) := by rw [e4, ← hJ]; rfl
        have e7 : IntKind.i64.wrap (J : Int) = (J : Int) := IntWalk.i64_in _ (by omega)
        have j1 : (0 : Int) ≤ J := by omega
        have j2 : (J : Int) < n := by omega
        clear hJ e3 e4 hy cy cv5 PH PK HPH HPK HPA HPB
        refine wp_region_quiet_then 14 #[true, true, true, true, true, true, true, true, true, true, true, true, true, true, false, false, false, false, false] (Ext _) (by kernel_rfl) (by kernel_rfl) (Ext.drawn _) ?_
        simp only [List.take_succ_cons, List.take_zero]
        repeat (first | (refine BigFrame.wpQuiet_want rfl (fun K hK => ?_); refine ⟨.agg (Kf k), fun w2 h2 => quietAt_load_row 65 _ rfl (w3.heap.size + 1) rfl _ (Kf k) (0, 0) _ ((h2.below.block _ (by omega)).trans G5.out.2.1) HT.out rfl (HIK.out k), ?_⟩; go_simp; refine hK _ ?_; clear hK K) | go_big_quiet_skip | go_big_quiet_step (fail) | (refine BigFrame.wpQuiet_want rfl (fun K hK => ?_); apply Exists.intro; refine ⟨fun w2 h2 => ?_, ?_⟩; (next => (have g1 := Below.cells h2.below; have g2 := Below.frozens h2.below; (try simp only [World.size_alloc, World.size_setCell] at g1 g2); first | (go_simp; (first | (go_at_call 21; refine h2.calls (same_below (within_any r n T _ (by omega) (by omega) HT0.out.1))) | (go_at_call 37; refine h2.calls (PK'.out _)))) | (simp [go_sem, ↓IntWalk.iteOmega, *]; done) | (simp [go_sem, ↓IntWalk.iteOmega, *]; rfl)))); (go_simp; refine hK _ ?_; clear hK K))
        refine wpQuiet_nil ?_
        intro w7 h7
        have hb7 := h7.below
        clear h7
        change wpAny _ _ _ _ 5 _ _ _
        have z7 := hb7.size
        have c7 := Below.cells hb7
        have f7 := Below.frozens hb7
        try simp only [World.size_alloc, World.size_setCell, World.size_drew] at z7 c7 f7
        (refine wpAny_take (i := 14) (v := ?_) rfl (by kernel_rfl) (by kernel_rfl) (by kernel_rfl) (fun _ _ _ h => h) (Or.inl ⟨by rfl, ?_⟩) ?_; (rotate_left; (intro w; go_simp; try with_reducible rfl)))
        (refine wpAny_take (i := 15) (v := ?_) rfl (by kernel_rfl) (by kernel_rfl) (by kernel_rfl) (fun _ _ _ h => h) (Or.inl ⟨by rfl, ?_⟩) ?_; (rotate_left; (intro w; go_simp; try with_reducible rfl)))
        (refine wpAny_take (i := 16) (v := ?_) rfl (by kernel_rfl) (by kernel_rfl) (by kernel_rfl) (fun _ _ _ h => h) (Or.inl ⟨by rfl, ?_⟩) ?_; (rotate_left; (intro w; go_simp; try with_reducible rfl)))
        have F7 := Lib.hid (G5.out.below hb7 (by omega))
        have G7 := Lib.hid (F7.out.set1 (Kf (k + 1)))
        have bel7 : Below w3.heap.size w3 w7 := bel6.trans (hb7.mono (by omega))
        have B7 := Lib.hid (setRow_below' (cs := Kf (k + 1)) bel7 (Nat.le_add_right w3.heap.size 1))
        have s7 := setRow_size w7 (w3.heap.size + 1) (Kf (k + 1))
        have cv7 := (bel7.cell (p := ⟨bk, off + k, none⟩) ltb).trans (HCr.out k hlt)
        refine wpAny_ready (rs := [17]) (by kernel_rfl) (by simp) ?_
        refine AllReady.cons rfl (fun K hK => ?_) AllReady.nil
        rw [if_pos (by rfl)]
        refine wp_store_row _ _ _ rfl (w3.heap.size + 1) (Kf (k + 1)) (by simp [Act.eval, Act.put]) (by simp [Act.eval, Act.put]) _ _ F7.out.2.1 (HIK.out (k + 1)) (by rw [HSK.out, HSK.out]) (HOK.out (k + 1)) (hK _ _ ?_)
        clear hK K c7 f7 cv6 cy' B5 F5' HF
        (refine wpAny_take (i := 18) (v := ?_) rfl (by kernel_rfl) (by kernel_rfl) (by kernel_rfl) (fun _ _ _ h => h) (Or.inl ⟨by rfl, ?_⟩) ?_; (rotate_left; (intro w; go_simp; try with_reducible rfl)))
        refine wpAny_done (by kernel_rfl) ?_ _
        generalize w7.setRow (w3.heap.size + 1) (Kf (k + 1)) = w8 at *
        by_cases hM : k < M
        · have hM' : (k : Int) < M := by omega
          have PA' := Lib.hid (PA.out hM)
          go_wp2_with (refine wpList_load_row rfl _ _ rfl (w3.heap.size + 1 + 1) rfl _ (Af k) (0, 0) _ G7.out.2.2.1 HT.out rfl (HIA.out k) ?_)
          refine (PA'.out _).mono ?_
          rintro e w9 ⟨rfl, hb9⟩
          have z9 := hb9.size
          have F9 := Lib.hid (G7.out.below hb9 (by omega))
          have bel9 : Below w3.heap.size w3 w9 := B7.out.trans (hb9.mono (by omega))
          have G9 := Lib.hid (F9.out.set2 (Af (k + 1)))
          have B9 := Lib.hid (setRow_below' (cs := Af (k + 1)) bel9 (show w3.heap.size ≤ w3.heap.size + 1 + 1 by omega))
          have s9 := setRow_size w9 (w3.heap.size + 1 + 1) (Af (k + 1))
          have e9 := Lib.hid (HPB'.out k hM)
          clear hb9
          go_wp2_with (refine wpList_store_row rfl _ _ _ rfl (w3.heap.size + 1 + 1) (Af (k + 1)) rfl rfl _ _ F9.out.2.2.1 (HIA.out (k + 1)) (by rw [HSA.out, HSA.out]) (HOA.out (k + 1)) ?_)
          go_roundw
          case rel => exact ⟨k + 1, by omega, by go_num, B9.out, by rw [s9]; omega, by have h := G9.out; rw [← e9.out] at h; exact h⟩
          case measure => simp [intOf]; omega
        · have hM' : ¬ (k : Int) < M := by omega
          have PB' := Lib.hid (PB.out hM)
          go_wp2_with (refine wpList_load_row rfl _ _ rfl (w3.heap.size + 1 + 1 + 1) rfl _ (Bf k) (0, 0) _ G7.out.2.2.2 HT.out rfl (HIB.out k) ?_)
          refine (PB'.out _).mono ?_
          rintro e w9 ⟨rfl, hb9⟩
          have z9 := hb9.size
          have F9 := Lib.hid (G7.out.below hb9 (by omega))
          have bel9 : Below w3.heap.size w3 w9 := B7.out.trans (hb9.mono (by omega))
          have G9 := Lib.hid (F9.out.set3 (Bf (k + 1)))
          have B9 := Lib.hid (setRow_below' (cs := Bf (k + 1)) bel9 (show w3.heap.size ≤ w3.heap.size + 1 + 1 + 1 by omega))
          have s9 := setRow_size w9 (w3.heap.size + 1 + 1 + 1) (Bf (k + 1))
          have e9 := Lib.hid (HPA'.out k hM)
          clear hb9
          go_wp2_with (refine wpList_store_row rfl _ _ _ rfl (w3.heap.size + 1 + 1 + 1) (Bf (k + 1)) rfl rfl _ _ F9.out.2.2.2 (HIB.out (k + 1)) (by rw [HSB.out, HSB.out]) (HOB.out (k + 1)) ?_)
          go_roundw
          case rel => exact ⟨k + 1, by omega, by go_num, B9.out, by rw [s9]; omega, by have h := G9.out; rw [← e9.out] at h; exact h⟩
          case measure => simp [intOf]; omega
      · obtain rfl : n = k := by omega
        have hf := HF.out
        rw [HEH.out, HEK.out] at hf
        have HE4 := Lib.hid hf
        clear hf HF HPH HPK HPA HPB HPA' HPB' HIH HIK HSH HSK HOH HOK HSA HSB HOA HOB HZH HZK HZA HZB HEH HEK
        go_wp2_with (first | (refine wpList_load_row rfl _ _ rfl (w3.heap.size + 1 + 1) rfl _ (Af n) (0, 0) _ HE4.out.2.2.1 HT.out rfl (HIA.out n) ?_) | (refine wpList_load_row rfl _ _ rfl (w3.heap.size + 1 + 1 + 1) rfl _ (Bf n) (0, 0) _ HE4.out.2.2.2 HT.out rfl (HIB.out n) ?_))
        refine (HPJ.out _).mono ?_
        rintro e w5 ⟨rfl, hb5⟩
        have z5 := hb5.size
        have F5b := Lib.hid (HE4.out.below hb5 (by omega))
        have bel5 : Below w3.heap.size w3 w5 := bel.trans (hb5.mono (by omega))
        have hblk5 := heap_alloc_last w5 (.cells Z 65)
        have HB5 := Lib.hid hblk5
        have fl : Four ((w5.alloc (.cells Z 65)).setRow w5.heap.size E) w3.heap.size 65 E E (Af n) (Bf n) := F5b.out.below (B := w5.heap.size) (setRow_below' ((Below.refl _ _).alloc (Nat.le_refl _) _) (Nat.le_refl _) _) (by omega)
        have FL := Lib.hid fl
        have JL := Lib.hid (setRow_at' (cs := E) hblk5)
        have BL := Lib.hid (setRow_below' (cs := E) (bel5.alloc (show w3.heap.size ≤ w5.heap.size by omega) (.cells Z 65)) (show w3.heap.size ≤ w5.heap.size by omega))
        have sl := setRow_size (w5.alloc (.cells Z 65)) w5.heap.size E
        rw [World.size_alloc] at sl
        clear hblk5 fl hb5 bel5
        go_wp2_with (first | (refine wpList_store_row rfl _ _ _ rfl w5.heap.size E rfl rfl _ _ HB5.out HIE.out HZE.out HOE.out ?_) | (refine wpList_load_row rfl _ _ rfl w3.heap.size rfl _ E (0, 0) _ FL.out.1 HT46.out rfl HIE46.out ?_))
        generalize (w5.alloc (.cells Z 65)).setRow w5.heap.size E = w6 at *
        go_loop [24, 119] (fun v i => ∃ (j : Nat) (U : Int), j ≤ 26 ∧ i = .int .i64 j ∧ v = .int .i64 U ∧ sumI ((hc ys).take j) = U) (fun _ i => 26 - (intOf i).toNat)
        case atStart => exact ⟨0, 0, Nat.zero_le _, rfl, rfl, rfl⟩
        case round =>
          obtain ⟨j, U, hj, rfl, rfl, hU⟩ := hrel
          by_cases hlt : j < 26
          · have hx := HSg.out j hlt
            have hs1 := HSn.out j hlt
            have hs2 := HSb.out j hj
            have hs3 := HSb.out (j + 1) (by omega)
            rw [hU] at hs1 hs2
            obtain ⟨u, hu⟩ : ∃ x, (hc ys).getD j 0 = x := ⟨_, rfl⟩
            rw [hu] at hx hs1
            rw [hs1] at hs3
            have hix := run_index26 w6 E j u hlt hx
            have HS1 := Lib.hid hs1
            have hwu : IntKind.i64.wrap (U + u) = U + u := IntWalk.i64_in _ (by omega)
            clear hu hs1 hU hx
            go_wp2_with fail
            go_round
            case rel => exact ⟨j + 1, U + u, by omega, by go_num, rfl, HS1.out⟩
            case measure => simp [intOf]; omega
          · obtain rfl : j = 26 := by omega
            rw [HSe.out] at hU
            subst hU
            go_wp2_with fail
            refine (within_any q 1000 Q _ (by omega) (by omega) HQ.out).mono ?_
            rintro e w' ⟨rfl, rfl⟩
            go_wp2_with fail
            refine (within_any p (1 + Q + 1) P _ (by omega) (by omega) HP.out).mono ?_
            rintro e w' ⟨rfl, rfl⟩
            go_wp2_with (refine wpList_load_row rfl _ _ rfl w3.heap.size rfl _ E (0, 0) _ FL.out.1 HT.out rfl HIE.out ?_)
            refine (HBt.out _).mono ?_
            rintro e w8 ⟨rfl, hb8⟩
            have z8 := hb8.size
            have R8 := Lib.hid ((R3.out.below BL.out).below hb8)
            have F8 := Lib.hid (FL.out.below hb8 (by omega))
            have J8 := Lib.hid ((hb8.block w5.heap.size (by omega)).trans JL.out)
            have B8 := Lib.hid (BL.out.trans (hb8.mono (by omega)))
            clear hb8
            go_wp2_with fail
            refine (HRk.out _ _ _ R8.out).mono ?_
            rintro e w9 ⟨rfl, hb9⟩
            have z9 := hb9.size
            have F9 := Lib.hid (F8.out.below hb9 (by omega))
            have J9 := Lib.hid ((hb9.block w5.heap.size (by omega)).trans J8.out)
            have B9 := Lib.hid (B8.out.trans (hb9.mono (by omega)))
            have heq := HEq.out
            clear hb9
            go_wp2_with (first | (refine wpList_load_row' (by simp [go_sem]) _ _ rfl w3.heap.size rfl _ E (0, 0) _ F9.out.1 HT.out rfl HIE.out ?_) | (refine wpList_load_row' (by simp [go_sem]) _ _ rfl (w3.heap.size + 1) rfl _ E (0, 0) _ F9.out.2.1 HT.out rfl HIE.out ?_) | (refine wpList_load_row' (by simp [go_sem]) _ _ rfl w5.heap.size rfl _ E (0, 0) _ J9.out HT.out rfl HIE.out ?_))
            go_ret
            exact ⟨by simp [*], bel3.trans (B9.out.mono bel3.size)⟩
end Go.Proofs.Ytlnagfmaiabhaaa
