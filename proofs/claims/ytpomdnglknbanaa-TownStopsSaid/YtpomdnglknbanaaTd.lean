/-
  (*Town).Level, Join, Stop, Way, Bring of a node that lives.
-/
import Derived.Test.YtpomdnglknbanaaTa
import Derived.Test.YtpomdnglknbanaaKr
import Derived.Test.YtpomdnglknbanaaShelf
import Derived.Test.YtpomdnglknbanaaQV
import Derived.Deep.DeepCutAuto
set_option linter.unusedSimpArgs false
set_option linter.unusedVariables false
namespace Go.Proofs.Ytpomdnglknbanaa
open Go Go.RowKit
theorem TRepC.parts {w : World} {t ga gn gd ca cn cd : Nat} {S : TSt} {f : Nat → Prop} {c : Nat → Nat} {wv : Value} {bs : Nat → Nat} (h : TRepC w t S f c ga gn gd ca cn cd wv bs) {i : Nat} (hi : i < S.n) :
    w.cell? ⟨ga, i * 5 + 2, none⟩ = some (.int .i64 (S.nd i).every) ∧ w.cell? ⟨gn, i, none⟩ = some (.pointer (some ⟨bs i, 0, none⟩)) ∧ w.cell? ⟨gd, i, none⟩ = some (.bool (S.dead i)) ∧ NRep w (bs i) (S.nd i) (fun x => f x ∧ c x = i + 5) ∧ t < w.heap.size ∧ gn < w.heap.size ∧ gd < w.heap.size ∧ ga < w.heap.size := by
  have hl := h.lt
  obtain ⟨h1, h2, h3, h4, h5, h6, h7, h8, h9, h10, h11, h12⟩ := h
  exact ⟨h2 i hi, h3 i hi, h4 i hi, h7 i hi, hl t h8.1, hl gn h8.2.2.1, hl gd h8.2.2.2, hl ga h8.2.1⟩
theorem TRepC.way {w : World} {t ga gn gd ca cn cd : Nat} {S : TSt} {f : Nat → Prop} {c : Nat → Nat} {wv : Value} {bs : Nat → Nat} (h : TRepC w t S f c ga gn gd ca cn cd wv bs) : w.ownsRow 0 9 1 wv S.way.length (S.way.map Value.string) := by
  obtain ⟨_, _, _, _, _, h6, _⟩ := h
  exact h6
theorem TRepC.wayAt {w : World} {t ga gn gd ca cn cd : Nat} {S : TSt} {f : Nat → Prop} {c : Nat → Nat} {wv : Value} {bs : Nat → Nat} (h : TRepC w t S f c ga gn gd ca cn cd wv bs) {i : Nat} (hi : i < S.way.length) :
    ∃ gw cw, wv = .slice (some ⟨gw, 0, none⟩) S.way.length cw ∧ gw < w.heap.size ∧ w.cell? ⟨gw, i, none⟩ = some (.string (S.way.getD i ⟨#[]⟩)) := by
  have h6 := h.way
  obtain ⟨A, cw, rfl, _, _, hn⟩ := own_form h6
  have hT := trow_own h6
  obtain ⟨b, off, rfl, lb, hc⟩ := hT.at hi
  rcases h6.2 with ⟨h, _⟩ | ⟨g, cap, cur, he, _⟩
  · cases h
  simp only [Value.slice.injEq, Option.some.injEq, Addr.mk.injEq, and_true, true_and] at he
  obtain ⟨⟨rfl, rfl⟩, _⟩ := he
  rw [Nat.zero_add] at hc
  exact ⟨b, cw, rfl, lb, hc⟩
theorem cloneT_ok (A : Option Addr) (n c base : Nat) (L : List ByteArray) (w : World) (own : w.ownsRow base 9 1 (.slice A n c) n (L.map Value.string)) (hn : n ≤ 1000000) :
    Calls Try.prog 116 #[.slice A n c] w fun e w' => ∃ A' c', e = .returned (.slice A' n c') ∧ w'.ownsRow w.heap.size 9 1 (.slice A' n c') n (L.map Value.string) ∧ Below w.heap.size w w' := by
  have hT := trow_own own
  have hl := hT.1
  rcases own.2 with ⟨he, h0⟩ | ⟨g, cap, cur, he, _⟩
  · simp only [Value.slice.injEq] at he
    obtain ⟨rfl, _, rfl⟩ := he
    subst h0
    have e0 : L = [] := List.eq_nil_of_length_eq_zero hl
    subst e0
    refine (Try.slices_Clone_string_nil 0 0 w).mono ?_
    rintro e w' ⟨rfl, rfl⟩
    exact ⟨none, 0, rfl, World.ownsRow_nil _ _ _ _, Below.refl _ _⟩
  · simp only [Value.slice.injEq] at he
    obtain ⟨rfl, _, rfl⟩ := he
    refine (Try.slices_Clone_string g 0 n c L w (by omega) (by omega) (fun j hj => ?_)).mono ?_
    · obtain ⟨b, off, hA, _, hc⟩ := hT.at (show j < n by omega)
      simp only [Option.some.injEq, Addr.mk.injEq, and_true] at hA
      obtain ⟨rfl, rfl⟩ := hA
      exact hc
    · rintro e w' ⟨v, rfl, own', _, hb⟩
      rw [List.take_of_length_le (by omega)] at own'
      obtain ⟨A', c', rfl, _⟩ := own_form own'
      exact ⟨A', c', rfl, own', hb⟩
section
variable {t i : Nat} {S : TSt} {f : Nat → Prop}
set_option maxRecDepth 100000 in
set_option maxHeartbeats 8000000 in
theorem tlevel_ok (w : World) (id : ByteArray) (h : TRep w t S f) (hi : i < S.n) (hd : S.dead i = false) (ok : NOK (S.nd i)) (k e0 : Int) (hk : levN (S.nd i) id = k) (he : (if has (S.nd i).peers id then 0 else 4) = e0) :
    Calls Try.prog 57 #[.pointer (some ⟨t, 0, none⟩), .int .i64 i, .string id] w fun e w' => e = .returned (.tuple #[.int .i64 k, .int .i64 e0]) ∧ Below w.heap.size w w' := by
  obtain ⟨c, ga, gn, gd, ca, cn, cd, wv, bs, h⟩ := h
  obtain ⟨_, k1, k2, _, _⟩ := h.cells
  obtain ⟨_, p1, p2, nr, _⟩ := h.parts hi
  rw [hd] at p2
  have HLv := Lib.hid (nlevel_ok (bs i) (S.nd i) _ id w nr ok k e0 hk he)
  obtain ⟨n, hn⟩ : ∃ n, S.n = n := ⟨_, rfl⟩
  rw [hn] at k1 k2 hi
  have i0 : ¬ (i : Int) < 0 := by omega
  have i1 : (i : Int) < n := by omega
  have i2 : decide ((n : Int) ≤ i) = false := by simp; omega
  clear h nr ok hk he hd hn
  go_enter Try.func57, Try.ntmps57
  go_wp2_with fail
  refine HLv.out.mono ?_
  rintro e w1 ⟨rfl, hb1⟩
  go_wp2_with fail
  go_ret2
  exact ⟨rfl, hb1⟩
set_option maxRecDepth 100000 in
set_option maxHeartbeats 8000000 in
theorem tstop_ok (w : World) (h : TRep w t S f) (hi : i < S.n) (hd : S.dead i = false) :
    Calls Try.prog 75 #[.pointer (some ⟨t, 0, none⟩), .int .i64 i] w fun e w' => e = .returned (.int .i64 0) ∧ TRep w' t (stopN S i) f ∧ Kept f w w' := by
  obtain ⟨c, ga, gn, gd, ca, cn, cd, wv, bs, h⟩ := h
  have HS := Lib.hid (h.stop hi)
  obtain ⟨_, k1, k2, _, _⟩ := h.cells
  obtain ⟨_, _, p2, _, _⟩ := h.parts hi
  have pf : ∀ o, w.frozen? ⟨gd, o, none⟩ = false := by obtain ⟨_, _, _, _, h5, _⟩ := h; exact h5
  rw [hd] at p2
  obtain ⟨n, hn⟩ : ∃ n, S.n = n := ⟨_, rfl⟩
  rw [hn] at k1 k2 hi
  have i0 : ¬ (i : Int) < 0 := by omega
  have i1 : (i : Int) < n := by omega
  have i2 : decide ((n : Int) ≤ i) = false := by simp; omega
  clear h hd hn
  go_enter Try.func75, Try.ntmps75
  go_wp2_with fail
  go_ret
  exact ⟨rfl, ⟨c, ga, gn, gd, ca, cn, cd, wv, bs, HS.out.1⟩, HS.out.2⟩
set_option maxRecDepth 100000 in
set_option maxHeartbeats 8000000 in
theorem tway_ok (w : World) (h : TRep w t S f) (hw : S.way.length ≤ 1000000) :
    Calls Try.prog 59 #[.pointer (some ⟨t, 0, none⟩)] w fun e w' => ∃ A' c', e = .returned (.slice A' S.way.length c') ∧ w'.ownsRow w.heap.size 9 1 (.slice A' S.way.length c') S.way.length (S.way.map Value.string) ∧ Below w.heap.size w w' := by
  obtain ⟨c, ga, gn, gd, ca, cn, cd, wv, bs, h⟩ := h
  obtain ⟨_, _, _, k3, _⟩ := h.cells
  have h6 := h.way
  obtain ⟨A, cw, rfl, hnc, hcm, hnil⟩ := own_form h6
  have HCl := Lib.hid (cloneT_ok A S.way.length cw 0 S.way w h6 hw)
  clear h h6 hnc hcm hnil
  go_enter Try.func59, Try.ntmps59
  go_wp2_with fail
  refine HCl.out.mono ?_
  rintro e w1 ⟨A1, c1, rfl, own1, hb1⟩
  have O1 := Lib.hid own1
  clear own1
  go_wp2_with fail
  go_ret
  exact ⟨A1, c1, rfl, O1.out, hb1⟩
set_option maxRecDepth 100000 in
set_option maxHeartbeats 8000000 in
theorem tbring_ok (w : World) {u : Nat} {id : ByteArray} {q : Int} (h : TRep w t S f) (hi : i < S.way.length) (ht : u < S.n) (hd : S.dead u = false) (ok : NOK (S.nd u)) (hid : IdOK (byts id)) (hq : 1 ≤ q ∧ q < 2147483648) (hx : S.way.getD i ⟨#[]⟩ = mkB (encL (byts id) 0 q.toNat)) :
    Calls Try.prog 68 #[.pointer (some ⟨t, 0, none⟩), .int .i64 i, .int .i64 u] w fun e w' => ∃ A' c' e0 f', e = .returned (.tuple #[.slice A' (hearF (S.nd u) id q).2.length c', .int .i64 e0]) ∧ TRep w' t (setN S u (hearF (S.nd u) id q).1) f' ∧ (∀ x, f' x → f x ∨ w.heap.size ≤ x) ∧ Kept f w w' ∧
      (has (S.nd u).peers id = true → newB (S.nd u) id q = true → e0 = 0) ∧ (has (S.nd u).peers id = true → newB (S.nd u) id q = false → e0 = 5) ∧ (has (S.nd u).peers id = false → (e0 != 0) = true) := by
  obtain ⟨c, ga, gn, gd, ca, cn, cd, wv, bs, h⟩ := h
  obtain ⟨_, k1, k2, k3, _⟩ := h.cells
  obtain ⟨_, p1, p2, nr, tl, nl, dl, _⟩ := h.parts ht
  obtain ⟨gw, cw, rfl, wl, xw⟩ := h.wayAt hi
  rw [hx] at xw
  rw [hd] at p2
  have HRep := Lib.hid h
  have HT := Lib.hid ht
  have HNr := Lib.hid nr
  have HHr := Lib.hid (fun w' (r : NRep w' (bs u) (S.nd u) (fun x => f x ∧ c x = u + 5)) => ahear w' r ok hid hq)
  have HEv := Lib.hid (show (hearF (S.nd u) id q).1.every = (S.nd u).every by unfold hearF; split; (split <;> rfl); rfl)
  obtain ⟨tx, htx⟩ : ∃ x, mkB (encL (byts id) 0 q.toNat) = x := ⟨_, rfl⟩
  rw [htx] at xw HHr
  obtain ⟨R, hR⟩ : ∃ R, hearF (S.nd u) id q = R := ⟨_, rfl⟩
  rw [hR] at HHr HEv ⊢
  obtain ⟨n, hn⟩ : ∃ n, S.n = n := ⟨_, rfl⟩
  rw [hn] at k1 k2 ht
  obtain ⟨m, hm⟩ : ∃ m, S.way.length = m := ⟨_, rfl⟩
  rw [hm] at k3 hi
  have i0 : ¬ (i : Int) < 0 := by omega
  have i1 : (i : Int) < m := by omega
  have i2 : decide ((m : Int) ≤ i) = false := by simp; omega
  have j0 : ¬ (u : Int) < 0 := by omega
  have j1 : (u : Int) < n := by omega
  have j2 : decide ((n : Int) ≤ u) = false := by simp; omega
  clear h nr ok hd hn hm htx hR hx hid hq
  go_enter Try.func68, Try.ntmps68
  go_wp2_with fail
  refine wp_region_quiet_then 14 #[true, true, true, true, true, true, true, true, true, true, true, true, true, true, false, false, false, false, false] (Ext _) (by kernel_rfl) (by kernel_rfl) (Ext.drawn _) ?_
  simp only [List.take_succ_cons, List.take_zero]
  repeat (first | go_big_quiet_skip | go_big_quiet_step (fail) | (refine BigFrame.wpQuiet_want rfl (fun K hK => ?_); apply Exists.intro; refine ⟨fun w2 h2 => ?_, ?_⟩; (next => (have g1 := Below.cells h2.below; have g2 := Below.frozens h2.below; (try simp only [World.size_alloc, World.size_setCell] at g1 g2); first | (go_simp; (fail)) | (simp [go_sem, ↓IntWalk.iteOmega, *]; done) | (simp [go_sem, ↓IntWalk.iteOmega, *]; rfl)))); (go_simp; refine hK _ ?_; clear hK K))
  refine wpQuiet_nil ?_
  intro w5 h5
  have hb5 := h5.below
  clear h5
  change wpAny _ _ _ _ 5 _ _ _
  have z5 := hb5.size
  have c5 := Below.cells hb5
  have f5 := Below.frozens hb5
  try simp only [World.size_alloc, World.size_setCell, World.size_drew] at z5 c5 f5
  refine wpAny_ready (rs := [14]) (by kernel_rfl) (by simp) ?_
  refine AllReady.cons rfl (fun K hK => ?_) AllReady.nil
  rw [if_pos (by rfl)]
  go_simp
  refine (HHr.out w5 (HNr.out.below hb5)).mono ?_
  rintro e w6 ⟨A', c', mm, e0, rfl, own, rep, hm1, hm2, kept, he⟩
  have HE := Lib.hid he
  have N6 := Lib.hid ((HRep.out.below hb5).node (M := w6.heap.size) HT.out rep ⟨kept.size, Nat.le_refl _⟩ (fun x hx => hx.imp (fun h => h) (fun h => ⟨h.1, by omega⟩)) kept HEv.out)
  have K5 := Lib.hid (Kept.of_below (f := f) hb5)
  have z5' := hb5.size
  clear own rep kept he
  go_simp
  refine hK _ _ ?_
  clear hK K
  (refine wpAny_take (i := 15) (v := ?_) rfl (by kernel_rfl) (by kernel_rfl) (by kernel_rfl) (fun _ _ _ h => h) (Or.inl ⟨by rfl, ?_⟩) ?_; (rotate_left; (intro w; go_simp; try with_reducible rfl)))
  (refine wpAny_take (i := 16) (v := ?_) rfl (by kernel_rfl) (by kernel_rfl) (by kernel_rfl) (fun _ _ _ h => h) (Or.inl ⟨by rfl, ?_⟩) ?_; (rotate_left; (intro w; go_simp; try with_reducible rfl)))
  (refine wpAny_take (i := 17) (v := ?_) rfl (by kernel_rfl) (by kernel_rfl) (by kernel_rfl) (fun _ _ _ h => h) (Or.inl ⟨by rfl, ?_⟩) ?_; (rotate_left; (intro w; go_simp; try with_reducible rfl)))
  (refine wpAny_take (i := 18) (v := ?_) rfl (by kernel_rfl) (by kernel_rfl) (by kernel_rfl) (fun _ _ _ h => h) (Or.inl ⟨by rfl, ?_⟩) ?_; (rotate_left; (intro w; go_simp; try with_reducible rfl)))
  refine wpAny_done (by kernel_rfl) ?_ _
  go_simp
  go_wp2_with fail
  go_ret2
  refine ⟨A', c', e0, _, rfl, ⟨_, _, _, _, _, _, _, _, _, N6.out.1⟩, fun x hx => hx.imp (fun h => h) (fun h => by omega), K5.out.trans N6.out.2 (fun x _ hx => hx), HE.out⟩
end
end Go.Proofs.Ytpomdnglknbanaa
