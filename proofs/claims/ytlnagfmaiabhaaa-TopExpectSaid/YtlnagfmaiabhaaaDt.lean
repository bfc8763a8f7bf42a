/-
  dec.Text.
-/
import Derived.Test.YtlnagfmaiabhaaaDg
import Derived.Test.YtlnagfmaiabhaaaRe
import Derived.Test.YtlnagfmaiabhaaaDiv
set_option linter.unusedSimpArgs false
set_option linter.unusedVariables false
namespace Go.Proofs.Ytlnagfmaiabhaaa
open Go Go.RowKit
theorem hi_dig {R : Nat} (h : R < 10) : hi (R : Int) = 0 ∧ lo (R : Int) = R := by unfold hi lo; omega
theorem zero_halves {Q : Nat} (h : hi (Q : Int) = 0) (h' : lo (Q : Int) = 0) : Q = 0 := by unfold hi lo at *; omega
theorem dig_bytes {l : List Nat} (h : Dig l) : Bytes l := fun b hb => by have := h b hb; omega

theorem own_set8 {w : World} {B e s n : Nat} {v : Value} {xs : List Value} (h : w.ownsRow B e s v n xs) {b : Nat} (hb : b < B) (o : Nat) (u : Value) : (w.setCell ⟨b, o, none⟩ u).ownsRow B e s v n xs := by
  refine ⟨h.1, h.2.imp id fun ⟨g, cap, cur, h1, h2, h3, h4⟩ => ⟨g, cap, cur, h1, h2, ?_, h4⟩⟩
  have : ¬ b = g := by omega
  simp [World.setCell, Array.getElem?_modify, this, h3]
theorem two_cells8 {w : World} {b : Nat} {u u' v v' : Value} (h0 : w.cell? ⟨b, 0, none⟩ = some u) (h1 : w.cell? ⟨b, 1, none⟩ = some u') :
    ((w.setCell ⟨b, 0, none⟩ v).setCell ⟨b, 1, none⟩ v').cell? ⟨b, 0, none⟩ = some v ∧ ((w.setCell ⟨b, 0, none⟩ v).setCell ⟨b, 1, none⟩ v').cell? ⟨b, 1, none⟩ = some v' := by
  have n01 : (⟨b, 0, none⟩ : Addr) ≠ ⟨b, 1, none⟩ := by simp
  have a1 : (w.setCell ⟨b, 0, none⟩ v).cell? ⟨b, 1, none⟩ = some u' := by rw [World.cell?_setCell_other _ _ _ _ n01]; exact h1
  exact ⟨by rw [World.cell?_setCell_other _ _ _ _ n01.symm]; exact World.cell?_setCell_same _ _ _ h0, World.cell?_setCell_same _ _ _ a1⟩
theorem app1_cells' (w : World) (x : Value) (T : TypeId) {b : Nat} (hb : b = w.heap.size) : ∀ j u, [x][j]? = some u → (w.alloc (.cells #[x] T)).cell? ((⟨b, 0, none⟩ : Addr).add j) = some u := by
  subst hb; exact app1_cells w x T
theorem one_u8 (y : Int) : ∀ u ∈ [Value.int .u8 y], u.oneCell' = true := by intro u hu; simp at hu; subst hu; rfl
set_option maxRecDepth 100000 in
set_option maxHeartbeats 8000000 in
theorem text_ok (N : Nat) {h l : Int} (ha : Wd (N : Int) h l) (w : World) :
    Calls Try.prog 29 #[.agg #[.int .u64 h, .int .u64 l]] w fun e w' => e = .returned (.string (mkB (txt N))) ∧ Below w.heap.size w w' := by
  obtain ⟨hN, rfl, rfl⟩ := ha
  have hlen : (dgl N).length ≤ 39 := by rw [dgl_len]; exact txt_len39 (by unfold U128 at hN; omega)
  obtain ⟨D, hD⟩ : ∃ D, dgl N = D := ⟨_, rfl⟩
  have htx : txt N = D.reverse := by rw [txt, hD]
  have hDb : Bytes D.reverse := by rw [← htx]; exact dig_bytes (txt_dig N)
  rw [htx]
  have HD := Lib.hid hD
  have HN := Lib.hid hN
  have HB := Lib.hid hDb
  have HL := Lib.hid (hD ▸ hlen : D.length ≤ 39)
  obtain ⟨i0, hi0, hz0, hz1, hz2⟩ := info_parts info_u8
  have qa := alloc_cells
  have qf := alloc_frozens
  clear hD htx hDb hlen hN
  go_enter Try.func29, Try.ntmps29
  have hb0 : Below w.heap.size w (w.alloc (.cells #[.int .u64 (hi N), .int .u64 (lo N)] 24)) := (Below.refl _ _).alloc (Nat.le_refl _) _
  obtain ⟨k0, k1⟩ : (w.alloc (.cells #[.int .u64 (hi N), .int .u64 (lo N)] 24)).cell? ⟨w.heap.size, 0, none⟩ = some (.int .u64 (hi N)) ∧ (w.alloc (.cells #[.int .u64 (hi N), .int .u64 (lo N)] 24)).cell? ⟨w.heap.size, 1, none⟩ = some (.int .u64 (lo N)) := by simp [qa]
  have kf : ∀ o, (w.alloc (.cells #[.int .u64 (hi N), .int .u64 (lo N)] 24)).frozen? ⟨w.heap.size, o, none⟩ = false := by intro o; simp [qf]
  have HK := Lib.hid (⟨k0, k1, kf, hb0⟩ : _ ∧ _ ∧ _ ∧ _)
  clear k0 k1 kf hb0
  go_wp2_with fail
  go_loopg [3] D.length (fun m v wr => ∃ (M n : Nat) (ds : List Nat), U128 (M : Int) ∧ (dgl M).length ≤ m ∧ ds.length = n ∧ ds ++ dgl M = D ∧ wr.ownsRow (w.heap.size + 1) 5 1 v n (ds.map bv) ∧
    wr.cell? ⟨w.heap.size, 0, none⟩ = some (.int .u64 (hi M)) ∧ wr.cell? ⟨w.heap.size, 1, none⟩ = some (.int .u64 (lo M)) ∧ (∀ o, wr.frozen? ⟨w.heap.size, o, none⟩ = false) ∧ w.heap.size + 1 ≤ wr.heap.size ∧ Below w.heap.size w wr)
  case atStart => exact ⟨N, 0, [], HN.out, Nat.le_of_eq (by rw [HD.out]), rfl, by rw [HD.out]; rfl, World.ownsRow_nil _ _ _ _, HK.out.1, HK.out.2.1, HK.out.2.2.1, by simp, HK.out.2.2.2⟩
  case round =>
    obtain ⟨M, n, ds, hM, hm, hn, hds, hown, ka, kb, kf, hsz, bel⟩ := hrel
    obtain ⟨Q, hQ⟩ : ∃ Q, M / 10 = Q := ⟨_, rfl⟩
    obtain ⟨R, hR⟩ : ∃ Q, M % 10 = Q := ⟨_, rfl⟩
    have r10 : R < 10 := by omega
    have hdiv : ∀ w', _ := fun w' => div_ok (M : Int) 10 Q R (Wd.mk hM) (Wd.lit (l := 10) (by unfold U64; omega)) (by omega) (by omega) (by omega) w'
    obtain ⟨r0, r1⟩ := hi_dig r10
    rw [r0, r1] at hdiv
    have HDiv := Lib.hid hdiv
    have w1 : IntKind.u8.wrap (R : Int) = R := by simp only [IntKind.wrap, IntKind.signed, IntKind.bits]; simp; omega
    have w2 : IntKind.u8.wrap (48 + (R : Int)) = 48 + R := by simp only [IntKind.wrap, IntKind.signed, IntKind.bits]; simp; omega
    obtain ⟨A, c, rfl, p1, p2, p3⟩ := own_form hown
    have hn39 : n ≤ 39 := by have := HL.out; rw [← hds, List.length_append] at this; omega
    have hQM : Q < 10 ∨ True := .inr trivial
    have HO := Lib.hid hown
    have HDs := Lib.hid (⟨hM, hm, hn, hds, hQ, hR⟩ : _ ∧ _ ∧ _ ∧ _ ∧ _ ∧ _)
    clear hdiv hown hM hm hn hds hQ hR hQM
    go_wp2_with fail
    refine (HDiv.out _).mono ?_
    rintro e wd ⟨rfl, hbd⟩
    have zd := hbd.size
    have cd := Below.cells hbd
    have fd := Below.frozens hbd
    have own1 := own_below HO.out hbd
    have hob : ∀ g, (Value.slice A n c).ownBlock = some g → w.heap.size + 1 ≤ g ∧ g < wr.heap.size := fun g hg => HO.out.lt g hg
    have HOb := Lib.hid hob
    clear hob
    go_wp2_with (at_builtin; (refine wpList_append_own _ rfl _ _ 104 rfl (w.heap.size + 1) 5 i0 (.int .u8 0) 1 1 Try.underlying104 hi0 hz0 hz1 hz2 rfl (by decide) _ _ _ rfl (((own1.alloc _).alloc _).alloc _) ⟨wd.heap.size + 1 + 1, 0, none⟩ 1 1 [.int .u8 (48 + (R : Int))] rfl rfl (app1_cells' _ _ _ (by simp)) (one_u8 _) (by unfold maxLen; omega) (by omega) (by simp; omega) ?_))
    intro vq wq ownq grq _
    have hnb : ∀ b, b < wd.heap.size + 1 → (b < w.heap.size + 1 ∨ wr.heap.size ≤ b) → wq.heap[b]? = ((wd.alloc (.cells #[.int .u64 (hi Q), .int .u64 (lo Q)] 24)).alloc (.cells #[.int .u64 0, .int .u64 R] 24)).heap[b]? := fun b hb hc => by
      refine (grq.block b (by simp; omega) (fun e => ?_)).trans (Below.heap_alloc _ _ b (by simp; omega))
      have := HOb.out b e.symm
      omega
    have q0 : wq.cell? ⟨wd.heap.size, 0, none⟩ = some (.int .u64 (hi Q)) := (World.cell?_of_block (hnb wd.heap.size (by omega) (.inr (by omega)))).trans (by simp [go_sem, ↓IntWalk.iteOmega, *])
    have q1 : wq.cell? ⟨wd.heap.size, 1, none⟩ = some (.int .u64 (lo Q)) := (World.cell?_of_block (hnb wd.heap.size (by omega) (.inr (by omega)))).trans (by simp [go_sem, ↓IntWalk.iteOmega, *])
    have hnw : wq.heap[w.heap.size]? = wr.heap[w.heap.size]? := (hnb w.heap.size (by omega) (.inl (by omega))).trans ((Below.heap_alloc _ _ _ (by simp; omega)).trans ((Below.heap_alloc _ _ _ (by omega)).trans (hbd.block _ (by omega))))
    have q2 : wq.cell? ⟨w.heap.size, 0, none⟩ = some (.int .u64 (hi M)) := (World.cell?_of_block hnw).trans ka
    have q3 : wq.cell? ⟨w.heap.size, 1, none⟩ = some (.int .u64 (lo M)) := (World.cell?_of_block hnw).trans kb
    have q4 : ∀ o, wq.frozen? ⟨w.heap.size, o, none⟩ = false := fun o => (World.frozen?_of_block hnw).trans (kf o)
    have bq : Below w.heap.size w wq := (((((bel.trans (hbd.mono (by omega))).alloc (by omega) _).alloc (by simp; omega) _).alloc (by simp; omega) _).grown grq (by simp; omega) (fun g hg => by have := (HOb.out g hg).1; omega))
    have zq := grq.size
    simp only [World.size_alloc] at zq
    have ownq' : wq.ownsRow (w.heap.size + 1) 5 1 vq (n + 1) ((ds ++ [48 + R]).map bv) := by rw [List.map_append]; exact ownq
    have HQ := Lib.hid ownq'
    have HBq := Lib.hid bq
    clear ownq ownq' grq hnb hnw own1 cd fd ka kb kf hbd bq bel qa qf
    obtain ⟨A', c', rfl, p1', p2', p3'⟩ := own_form HQ.out
    have hh := HDs.out
    obtain ⟨hM, hm, hn, hds, hQ, hR⟩ := hh
    by_cases hq0 : Q = 0
    · have hM10 : M < 10 := by omega
      have e1 : hi (Q : Int) = 0 := by subst hq0; exact hi_zero
      have e2 : lo (Q : Int) = 0 := by subst hq0; exact lo_zero
      rw [e1] at q0
      rw [e2] at q1
      rw [dgl_lt hM10] at hds
      have hR' : R = M := by omega
      rw [← hR'] at hds
      have hDn : D.length = n + 1 := by rw [← hds, List.length_append, hn]; rfl
      have ownD : wq.ownsRow (w.heap.size + 1) 5 1 (.slice A' (n + 1) c') (n + 1) (D.map bv) := by rw [← hds]; exact HQ.out
      have HOwn := Lib.hid (own_set8 (own_set8 ownD (b := w.heap.size) (by omega) 0 (.int .u64 0)) (b := w.heap.size) (by omega) 1 (.int .u64 0))
      clear ownD HQ hds hR' hDn hM hm hn hQ hR hM10 hq0
      go_wp2_with fail
      refine (reverse_ok A' (n + 1) c' (w.heap.size + 1) D _ HOwn.out (by omega)).mono ?_
      rintro e w5 ⟨rfl, own5, hb5⟩
      have hcv := run_own_text w5 HB.out own5
      have B5 := Lib.hid (((HBq.out.setCell (p := ⟨w.heap.size, 0, none⟩) (Nat.le_refl _) (.int .u64 0)).setCell (p := ⟨w.heap.size, 1, none⟩) (Nat.le_refl _) (.int .u64 0)).trans (hb5.mono (by omega)))
      clear own5 hb5
      go_wp2_with fail
      go_ret
      exact ⟨rfl, B5.out⟩
    · have hM10 : ¬ M < 10 := by omega
      have hQU : U128 (Q : Int) := by unfold U128 at *; omega
      rw [dgl_ge hM10, hQ, hR] at hds
      rw [dgl_ge hM10, hQ, List.length_cons] at hm
      have hcs : (¬ hi (Q : Int) = 0) ∨ (hi (Q : Int) = 0 ∧ ¬ lo (Q : Int) = 0) := by
        by_cases c : hi (Q : Int) = 0
        · exact .inr ⟨c, fun c2 => hq0 (zero_halves c c2)⟩
        · exact .inl c
      have hds2 : (ds ++ [48 + R]) ++ dgl Q = D := by rw [← hds]; simp
      obtain ⟨m', rfl⟩ : ∃ m', gk = m' + 1 := ⟨gk - 1, by omega⟩
      have hle : (dgl Q).length ≤ m' := by omega
      obtain ⟨X, hX⟩ : ∃ X, hi (Q : Int) = X := ⟨_, rfl⟩
      obtain ⟨Y, hY⟩ : ∃ X, lo (Q : Int) = X := ⟨_, rfl⟩
      rw [hX, hY] at hcs
      rw [hX] at q0
      rw [hY] at q1
      have HX := Lib.hid (⟨hX, hY⟩ : _ ∧ _)
      have HOwn := Lib.hid (own_set8 (own_set8 HQ.out (b := w.heap.size) (by omega) 0 (.int .u64 X)) (b := w.heap.size) (by omega) 1 (.int .u64 Y))
      have HC0 := Lib.hid (two_cells8 q2 q3 (v := .int .u64 X) (v' := .int .u64 Y))
      have HFz := Lib.hid (fun o => ((World.frozen?_setCell _ _ _ _).trans ((World.frozen?_setCell _ _ _ _).trans (q4 o)) : ((wq.setCell ⟨w.heap.size, 0, none⟩ (.int .u64 X)).setCell ⟨w.heap.size, 1, none⟩ (.int .u64 Y)).frozen? ⟨w.heap.size, o, none⟩ = false))
      have HB5 := Lib.hid ((HBq.out.setCell (p := ⟨w.heap.size, 0, none⟩) (Nat.le_refl _) (.int .u64 X)).setCell (p := ⟨w.heap.size, 1, none⟩) (Nat.le_refl _) (.int .u64 Y))
      have HR := Lib.hid (⟨hQU, hle, (by simp [hn] : (ds ++ [48 + R]).length = n + 1), hds2⟩ : _ ∧ _ ∧ _ ∧ _)
      clear HQ hds hM hm hn hQ hR hM10 hq0 hQU hds2 hle hX hY
      rcases hcs with c1 | ⟨rfl, c2⟩
      all_goals
        go_wp2_with fail
        go_roundg m'
      all_goals first
        | (case measure => omega)
        | (case rel => exact ⟨Q, n + 1, ds ++ [48 + R], HR.out.1, HR.out.2.1, HR.out.2.2.1, HR.out.2.2.2, HOwn.out, by rw [HX.out.1]; exact HC0.out.1, by rw [HX.out.2]; exact HC0.out.2, HFz.out, by simp; omega, HB5.out⟩)
end Go.Proofs.Ytlnagfmaiabhaaa
