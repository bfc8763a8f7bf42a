import Derived.Test.YtpomdnglknbanaaKt
import Derived.Test.YtpomdnglknbanaaKw
import Derived.Maps.OwnOps
import Derived.Deep.DeepCutAuto
set_option linter.unusedSimpArgs false
set_option linter.unusedVariables false
namespace Go.Proofs.Ytpomdnglknbanaa
open Go Go.RowKit
theorem AOK.hasAll {E L T : Int} {s : NSt} (h : AOK E L T s) {u : Sub} (hu : u ∈ s.subs) : has s.peers u.id = true := (h.pre.subs u hu).1
theorem onOf_ne {a b : Bool} (h : a ≠ b) : b = !a := by cases a <;> cases b <;> simp_all
/-- What is told of subs that are all different: each of another, and each says what was not known. -/
theorem told_turns (t : NSt) (F : Value → Bool) : ∀ S : List Sub, S.Pairwise (fun u v => ¬ (u.id = v.id ∧ u.theta = v.theta)) → (∀ u ∈ S, F (whoV u.id u.theta) = u.on) →
    (∀ x ∈ S.flatMap (noteOf t), F (whoV x.id x.theta) = !x.sus ∧ ∃ u ∈ S, x.id = u.id ∧ x.theta = u.theta ∧ x.sus = onOf t u) ∧ (S.flatMap (noteOf t)).Pairwise (fun x y => ¬ (x.id = y.id ∧ x.theta = y.theta)) ∧
      (∀ u ∈ S, (∃ x ∈ S.flatMap (noteOf t), x.id = u.id ∧ x.theta = u.theta ∧ x.sus = onOf t u) ∨ ((∀ x ∈ S.flatMap (noteOf t), ¬ (x.id = u.id ∧ x.theta = u.theta)) ∧ F (whoV u.id u.theta) = onOf t u))
  | [], _, _ => by simp
  | u :: S, hd, hk => by
    obtain ⟨h1, h2⟩ := List.pairwise_cons.1 hd
    obtain ⟨ih1, ih2, ih3⟩ := told_turns t F S h2 (fun v hv => hk v (List.mem_cons_of_mem _ hv))
    have hu := hk u (by simp)
    rw [List.flatMap_cons]
    by_cases c : onOf t u = u.on
    · have e : noteOf t u = [] := by unfold noteOf; rw [if_pos c]
      rw [e, List.nil_append]
      refine ⟨fun x hx => ?_, ih2, fun v hv => ?_⟩
      · obtain ⟨a1, v, hv, a2⟩ := ih1 x hx
        exact ⟨a1, v, List.mem_cons_of_mem _ hv, a2⟩
      · rcases List.mem_cons.1 hv with rfl | hv
        · refine .inr ⟨fun x hx hxx => ?_, by rw [hu, c]⟩
          obtain ⟨_, v2, hv2, b1, b2, _⟩ := ih1 x hx
          exact h1 v2 hv2 ⟨hxx.1.symm.trans b1, hxx.2.symm.trans b2⟩
        · exact ih3 v hv
    · have e : noteOf t u = [⟨u.id, u.theta, onOf t u⟩] := by unfold noteOf; rw [if_neg c]
      rw [e]
      refine ⟨fun x hx => ?_, ?_, fun v hv => ?_⟩
      · rcases List.mem_append.1 hx with hx | hx
        · rw [List.mem_singleton] at hx
          subst hx
          exact ⟨by show F (whoV u.id u.theta) = !onOf t u; rw [hu]; exact onOf_ne c, u, by simp, rfl, rfl, rfl⟩
        · obtain ⟨a1, v, hv, a2⟩ := ih1 x hx
          exact ⟨a1, v, List.mem_cons_of_mem _ hv, a2⟩
      · refine List.pairwise_append.2 ⟨by simp, ih2, fun x hx y hy => ?_⟩
        rw [List.mem_singleton] at hx
        subst hx
        obtain ⟨_, v2, hv2, b1, b2, _⟩ := ih1 y hy
        exact fun hxx => h1 v2 hv2 ⟨hxx.1.trans b1, hxx.2.trans b2⟩
      · rcases List.mem_cons.1 hv with rfl | hv
        · exact .inl ⟨⟨v.id, v.theta, onOf t v⟩, by simp, rfl, rfl, rfl⟩
        · rcases ih3 v hv with ⟨x, hx, a⟩ | ⟨a1, a2⟩
          · exact .inl ⟨x, List.mem_append.2 (.inr hx), a⟩
          · refine .inr ⟨fun x hx => ?_, a2⟩
            rcases List.mem_append.1 hx with hx | hx
            · rw [List.mem_singleton] at hx
              subst hx
              exact h1 v hv
            · exact a1 x hx
theorem ask_turns {E L T a0 : Int} {s t : NSt} {id : ByteArray} {N : List Note} (h : AOK E L T s) (ha : Ask s a0 id t N) (F : Value → Bool) (hk : ∀ u ∈ s.subs, F (whoV u.id u.theta) = u.on)
    (hab : ∀ id th, (∀ u ∈ s.subs, ¬ (u.id = id ∧ u.theta = th)) → F (whoV id th) = false) :
    N.length ≤ 8 ∧ (∀ x ∈ N, F (whoV x.id x.theta) = !x.sus) ∧ N.Pairwise (fun x y => ¬ (x.id = y.id ∧ x.theta = y.theta)) ∧
      (∀ v ∈ t.subs, (∃ x ∈ N, x.id = v.id ∧ x.theta = v.theta ∧ x.sus = v.on) ∨ ((∀ x ∈ N, ¬ (x.id = v.id ∧ x.theta = v.theta)) ∧ F (whoV v.id v.theta) = v.on)) := by
  have main : ∀ t' : NSt, t'.subs.length ≤ 8 → t'.subs.Pairwise (fun u v => ¬ (u.id = v.id ∧ u.theta = v.theta)) → (∀ u ∈ t'.subs, F (whoV u.id u.theta) = u.on) → (toldN t').length ≤ 8 ∧ (∀ x ∈ toldN t', F (whoV x.id x.theta) = !x.sus) ∧ (toldN t').Pairwise (fun x y => ¬ (x.id = y.id ∧ x.theta = y.theta)) ∧
      (∀ v ∈ (tellS t').subs, (∃ x ∈ toldN t', x.id = v.id ∧ x.theta = v.theta ∧ x.sus = v.on) ∨ ((∀ x ∈ toldN t', ¬ (x.id = v.id ∧ x.theta = v.theta)) ∧ F (whoV v.id v.theta) = v.on)) := fun t' h8 hd hk' => by
    obtain ⟨m1, m2, m3⟩ := told_turns t' F t'.subs hd hk'
    refine ⟨Nat.le_trans (told_le t' t'.subs) h8, fun x hx => (m1 x hx).1, m2, fun v hv => ?_⟩
    obtain ⟨u, hu, rfl⟩ := mem_toldS hv
    exact m3 u hu
  have none : ∀ t' : NSt, (∀ v ∈ t'.subs, v ∈ s.subs) → ([] : List Note).length ≤ 8 ∧ (∀ x ∈ ([] : List Note), F (whoV x.id x.theta) = !x.sus) ∧ ([] : List Note).Pairwise (fun x y => ¬ (x.id = y.id ∧ x.theta = y.theta)) ∧
      (∀ v ∈ t'.subs, (∃ x ∈ ([] : List Note), x.id = v.id ∧ x.theta = v.theta ∧ x.sus = v.on) ∨ ((∀ x ∈ ([] : List Note), ¬ (x.id = v.id ∧ x.theta = v.theta)) ∧ F (whoV v.id v.theta) = v.on)) := fun t' hs =>
    ⟨by simp, by simp, by simp, fun v hv => .inr ⟨by simp, hk v (hs v hv)⟩⟩
  cases ha with
  | tick g h0 hg => exact main (tickS s g) h.pre.ok.subs h.pre.dist hk
  | new q h0 hq hh hn => exact main (hearQ s id q) h.pre.ok.subs h.pre.dist hk
  | old q h0 hq hh hn => exact none _ (fun v hv => hv)
  | drop h0 => exact none _ (fun v hv => hv)
  | join th h0 ht hh hx h8 =>
    have hp := h.pre.join ht hh hx h8
    refine main (joinS s id th) hp.ok.subs hp.dist (fun u hu => ?_)
    rcases List.mem_append.1 (show u ∈ s.subs ++ [⟨id, th, false⟩] from hu) with hu | hu
    · exact hk u hu
    · rw [List.mem_singleton] at hu
      subst hu
      refine hab _ _ fun v hv e => ?_
      have := idx_no hx v hv
      rw [hit_iff.2 e] at this
      cases this
  | part k h0 => exact none _ (fun v hv => erase_mem hv)
  | same h0 => exact none _ (fun v hv => hv)
theorem ask_keys {s t : NSt} {a0 : Int} {id : ByteArray} {N : List Note} (ha : Ask s a0 id t N) {x : Note} (hx : x ∈ N) : ∃ u ∈ t.subs, x.id = u.id ∧ x.theta = u.theta := by
  have main : ∀ t' : NSt, x ∈ toldN t' → ∃ u ∈ (tellS t').subs, x.id = u.id ∧ x.theta = u.theta := fun t' h => by
    obtain ⟨u, hu, _, rfl⟩ := mem_told.1 h
    exact ⟨upd t' u, List.mem_map.2 ⟨u, hu, rfl⟩, rfl, rfl⟩
  cases ha with
  | tick g h0 hg => exact main _ hx
  | new q h0 hq hh hn => exact main _ hx
  | old q h0 hq hh hn => cases hx
  | drop h0 => cases hx
  | join th h0 ht hh hx' h8 => exact main _ hx
  | part k h0 => cases hx
  | same h0 => cases hx
theorem AOK.key {E L T : Int} {s : NSt} (h : AOK E L T s) {u : Sub} (hu : u ∈ s.subs) : u.id.size ≤ maxLen ∧ (Lit.int .i64 u.theta).wf = true := by
  obtain ⟨h1, h2, h3⟩ := h.pre.subs u hu
  have h4 := (h.pre.ok.at (has_lt h1)).1.id.2.1
  rw [has_id h1, byts_len] at h4
  exact ⟨by unfold maxLen; omega, WalkArith.wf_i64 (by omega)⟩
theorem mem_take_succ {α : Type} {L : List α} {j : Nat} (hj : j < L.length) (d x : α) : x ∈ L.take (j + 1) ↔ x ∈ L.take j ∨ x = L.getD j d := by
  rw [List.take_succ_eq_append_getElem hj, List.mem_append, List.mem_singleton, List.getD_eq_getElem?_getD, List.getElem?_eq_getElem hj]
  rfl
theorem pair_take {α : Type} {R : α → α → Prop} {L : List α} (h : L.Pairwise R) {j : Nat} (hj : j < L.length) (d : α) : ∀ x ∈ L.take j, R x (L.getD j d) := by
  intro x hx
  obtain ⟨i, hi, rfl⟩ := List.getElem_of_mem hx
  rw [List.length_take] at hi
  rw [List.getElem_take, List.getD_eq_getElem?_getD, List.getElem?_eq_getElem hj]
  exact List.pairwise_iff_getElem.1 h _ _ (by omega) hj (by omega)
theorem who_ne {a c : ByteArray} {b d : Int} (h : ¬ (a = c ∧ b = d)) : whoV a b ≠ whoV c d := by
  intro e
  unfold whoV at e
  simp at e
  exact h e
theorem NoteRow.same {f : Nat → Prop} {w w' : World} {A : Option Addr} {n : Nat} {L : List Note} (h : NoteRow w A n L) (hf : ∀ g off, A = some ⟨g, off, none⟩ → f g) (hs : Same f w w') : NoteRow w' A n L := by
  refine ⟨h.1, fun h0 => ?_⟩
  obtain ⟨b, off, hA, lb, hp⟩ := h.2 h0
  have hb := hs.2 b lb (hf b off hA)
  refine ⟨b, off, hA, Nat.lt_of_lt_of_le lb hs.1, fun k hk => ?_⟩
  obtain ⟨a1, a2, a3⟩ := hp k hk
  exact ⟨(World.cell?_of_block (a := ⟨b, _, none⟩) hb).trans a1, (World.cell?_of_block (a := ⟨b, _, none⟩) hb).trans a2, (World.cell?_of_block (a := ⟨b, _, none⟩) hb).trans a3⟩
theorem SRow.same {f : Nat → Prop} {w w' : World} {A : Option Addr} {n : Nat} {L : List Sub} (h : SRow w A n L) (hf : ∀ g off, A = some ⟨g, off, none⟩ → f g) (hs : Same f w w') : SRow w' A n L := by
  refine ⟨h.1, fun h0 => ?_⟩
  obtain ⟨b, off, hA, lb, hp⟩ := h.2 h0
  have hb := hs.2 b lb (hf b off hA)
  refine ⟨b, off, hA, Nat.lt_of_lt_of_le lb hs.1, fun k hk => ?_⟩
  obtain ⟨a1, a2, a3⟩ := hp k hk
  exact ⟨(World.cell?_of_block (a := ⟨b, _, none⟩) hb).trans a1, (World.cell?_of_block (a := ⟨b, _, none⟩) hb).trans a2, (World.cell?_of_block (a := ⟨b, _, none⟩) hb).trans a3⟩
theorem Same.tr {f : Nat → Prop} {w w1 w2 : World} (h : Same f w w1) (k : Same f w1 w2) : Same f w w2 := ⟨Nat.le_trans h.1 k.1, fun b hb hf => (k.2 b (Nat.lt_of_lt_of_le hb h.1) hf).trans (h.2 b hb hf)⟩
theorem Same.of_grown {w w' : World} {B : Nat} (h : w.grownBy w' (some B)) : Same (fun x => x ≠ B) w w' := ⟨h.size, fun x hx hne => h.block x hx (fun e => hne (by simpa using e))⟩
theorem own_ne {w : World} {base e s n c B : Nat} {A : Option Addr} {xs : List Value} (h : w.ownsRow base e s (.slice A n c) n xs) (hB : B < base) : ∀ g off, A = some ⟨g, off, none⟩ → g ≠ B := fun g off he => by
  subst he
  rcases h.2 with ⟨h1, _⟩ | ⟨g', c2, cur, h1, h2, _⟩
  · cases h1
  · simp only [Value.slice.injEq, Option.some.injEq, Addr.mk.injEq] at h1
    obtain ⟨⟨rfl, _⟩, _⟩ := h1
    omega
set_option maxRecDepth 100000 in
set_option maxHeartbeats 16000000 in
theorem nodeTurns_walk (e0 l0 : Int) (a : Option Addr) (len cap : Nat) (Z : List (List Int)) (w : World) (_ : (Lit.int .i64 e0).wf = true) (_ : (Lit.int .i64 l0).wf = true) (hr : IsRows w a len Z) (hc : len ≤ cap ∧ cap ≤ maxLen) :
    Calls Try.prog 12 #[.int .i64 e0, .int .i64 l0, .slice a len cap] w fun e w' => e = .returned (.bool true) ∧ Below w.heap.size w w' := by
  have hmm := @run_makeMap Try.prog
  obtain ⟨hcp, hmx⟩ := hc
  unfold maxLen at hmx
  obtain ⟨n, hn⟩ : ∃ n : Nat, min len 80 = n := ⟨_, rfl⟩
  have hmin : min (len : Int) 80 = (n : Int) := by omega
  have hnl : n ≤ len := by omega
  have nl' : (n : Int) ≤ len := by omega
  have nc' : (n : Int) ≤ cap := by omega
  have hn80 : n ≤ 80 := by omega
  obtain ⟨E, hE⟩ : ∃ E, within e0 50 = E - 1 := ⟨within e0 50 + 1, by omega⟩
  obtain ⟨L, hL⟩ : ∃ L, within l0 20 = L - 1 := ⟨within l0 20 + 1, by omega⟩
  have b1 := within_bd e0 (n := 50) (by omega)
  have b2 := within_bd l0 (n := 20) (by omega)
  have HOne := Lib.hid (fun w' => one_ok e0 l0 E L w' hE hL)
  have HOk := Lib.hid (oneS_ok (E := E) (L := L) ⟨by omega, by omega⟩ ⟨by omega, by omega⟩)
  have HEL := Lib.hid (show (1 ≤ E ∧ E ≤ 50) ∧ (1 ≤ L ∧ L ≤ 20) by omega)
  have HR := Lib.hid hr
  have HB := Lib.hid (fun w' => nbegun_ok w')
  clear hr hn hE hL b1 b2
  go_enter Try.func12, Try.ntmps12
  go_wp2_with fail
  refine (HB.out w).mono ?_
  rintro e w1 ⟨rfl, hb1⟩
  have HB1 := Lib.hid hb1
  have z1 := hb1.size
  clear hb1
  go_wp2_with fail
  refine (HOne.out w1).mono ?_
  rintro e w2 ⟨b, f0, rfl, rep2, hf2, hb2⟩
  have R2 := Lib.hid rep2
  have HF2 := Lib.hid (fun x hx => Nat.le_trans z1 (hf2 x hx))
  have HB2 := Lib.hid (HB1.out.trans (hb2.mono z1))
  clear rep2 hf2 hb2
  go_wp2_with fail
  have M0 := Lib.hid (MapB.made 98 w2)
  have RM := Lib.hid (R2.out.below ((Below.refl _ _).alloc (Nat.le_refl _) (.map #[] 0)))
  have BM := Lib.hid (HB2.out.alloc HB2.out.size (.map #[] 0))
  have HFl := Lib.hid R2.out.lt
  have zB := HB2.out.size
  obtain ⟨B0, hB0⟩ : ∃ B, w2.heap.size = B := ⟨_, rfl⟩
  have HBB := Lib.hid hB0
  rw [hB0] at M0 zB ⊢
  generalize w2.alloc (.map #[] 0) = w3 at M0 RM BM ⊢
  clear hB0
  go_loopw [8, 32] (fun v i wr => ∃ (k m Bs : Nat) (s : NSt) (f : Nat → Prop) (F : Value → Bool), k ≤ n ∧ i = .int .i64 k ∧ v = .map (some Bs) ∧ NRep wr b s f ∧ AOK E L (60 * k) s ∧ (∀ x, f x → w.heap.size ≤ x) ∧ Below w.heap.size w wr ∧ w.heap.size ≤ Bs ∧ ¬ f Bs ∧ MapB 98 wr Bs m F ∧ m ≤ 8 ∧
    (∀ u ∈ s.subs, F (whoV u.id u.theta) = u.on) ∧ (∀ id th, (∀ u ∈ s.subs, ¬ (u.id = id ∧ u.theta = th)) → F (whoV id th) = false)) (fun _ i _ => n - (intOf i).toNat)
  case atStart => exact ⟨0, 0, B0, _, f0, _, Nat.zero_le _, rfl, rfl, RM.out, HOk.out, HF2.out, BM.out, zB, fun h => by have := HFl.out _ h; have := HBB.out; omega, M0.out, by omega, fun u hu => by simp [oneS] at hu, fun _ _ _ => rfl⟩
  case round =>
    clear M0 RM BM HFl HBB zB
    obtain ⟨k, m0, Bs, s, f, F0, hk, rfl, rfl, hrep, hok, hf, bel, hBs, hnB, hM, hm8, hkn, hab⟩ := hrel
    have sz0 := bel.size
    by_cases hlt : k < n
    · skip
      have HTu := Lib.hid (fun t N a0 id (ha : Ask s a0 id t N) => ask_turns hok ha F0 hkn hab)
      have HM := Lib.hid hM
      have Bl := hM.lt
      have HNB := Lib.hid hnB
      clear hkn hab hM hnB
      obtain ⟨rb, off, A, C, rfl, rc, hin⟩ := rows_at HR.out (show k < len by omega) bel
      obtain ⟨l, hl⟩ : ∃ l, Z.getD k [] = l := ⟨_, rfl⟩
      rw [hl] at rc hin
      obtain ⟨m, hm⟩ : ∃ m, l.length = m := ⟨_, rfl⟩
      rw [hm] at rc hin
      have kw : IntKind.i64.wrap ((k : Int) + 1) = (k : Int) + 1 := IntWalk.i64_in _ (by omega)
      have HIn := Lib.hid hin
      have HAs := Lib.hid (fun w' (h : NRep w' b s f) hi => asked_ok b s f m C A l w' h hok (by omega) hi)
      have HOk2 := Lib.hid (askL_ok hok (by omega) l)
      rw [show (60 : Int) * k + 60 = 60 * ((k + 1 : Nat) : Int) by omega] at HOk2
      have HAk := Lib.hid (askL_ask s l)
      have HOk1 := Lib.hid hok
      obtain ⟨N, hN⟩ : ∃ N, (askL s l).2 = N := ⟨_, rfl⟩
      obtain ⟨s', hs'⟩ : ∃ s', (askL s l).1 = s' := ⟨_, rfl⟩
      rw [hN, hs'] at HAs HAk
      rw [hs'] at HOk2
      have HRep := Lib.hid hrep
      have HF := Lib.hid hf
      have HBe := Lib.hid bel
      have HL := Lib.hid hm
      clear hl hm hin hok hN hs' hrep hf bel
      have HTu2 := Lib.hid (HTu.out _ _ _ _ HAk.out)
      have HKey := Lib.hid (fun x (hx : x ∈ N) => (show ∃ l, keyOf Try.prog 98 (whoV x.id x.theta) = some l from by
        obtain ⟨u, hu, e1, e2⟩ := ask_keys HAk.out hx
        rw [e1, e2]
        exact who_key (HOk2.out.key hu).1 (HOk2.out.key hu).2))
      have HSu := Lib.hid (fun f' w' (h : NRep w' b s' f') => nsubs_ok b s' f' w' h HOk2.out.pre.ok)
      have HLv := Lib.hid (fun id (hid : has s'.peers id = true) f' w' (h : NRep w' b s' f') => nlevel_ok b s' f' id w' h HOk2.out.pre.ok (levN s' id) 0 rfl (by rw [hid]; rfl))
      go_wp2_with fail
      refine (HAs.out wr HRep.out HIn.out).mono ?_
      rintro e w4 ⟨A', c', mm, rfl, own, rep, hmm1, hmm2, kept⟩
      have M4 := Lib.hid (HM.out.same (kept.block Bs Bl HNB.out))
      have R4 := Lib.hid rep
      have B4 := Lib.hid (HBe.out.trans (kept.below (by omega) HF.out))
      have F4 := Lib.hid (fun x (hx : ext f wr.heap.size mm x) => (show w.heap.size ≤ x ∧ x ≠ Bs ∧ x < w4.heap.size from hx.elim (fun h => ⟨HF.out x h, fun e => HNB.out (e ▸ h), by have := HRep.out.lt x h; have := kept.size; omega⟩) (fun h => by omega)))
      have z4 := kept.size
      obtain ⟨p, hp⟩ : ∃ p, N.length = p := ⟨_, rfl⟩
      have HP := Lib.hid hp
      have p8 : p ≤ 8 := by rw [← hp]; exact HTu2.out.1
      have NR := Lib.hid (noteRow_own own rfl)
      have OW4 := Lib.hid (own_ne own (show Bs < mm by omega))
      rw [hp] at NR ⊢
      obtain ⟨f4, hf4⟩ : ∃ g, ext f wr.heap.size mm = g := ⟨_, rfl⟩
      rw [hf4] at R4 F4
      clear own rep kept hp hf4
      have qa := alloc_cells
      have qf := alloc_frozens
      go_wp2_with fail
      go_loopw [40] (fun i wy => ∃ (j m : Nat) (F : Value → Bool), j ≤ p ∧ i = .int .i64 j ∧ MapB 98 wy Bs m F ∧ m ≤ m0 + j ∧ (∀ x ∈ N.take j, F (whoV x.id x.theta) = x.sus) ∧ (∀ id th, (∀ x ∈ N.take j, ¬ (x.id = id ∧ x.theta = th)) → F (whoV id th) = F0 (whoV id th)) ∧
        Same (fun x => x ≠ Bs) w4 wy ∧ Below w.heap.size w wy) (fun i _ => p - (intOf i).toNat)
      case atStart => exact ⟨0, m0, F0, Nat.zero_le _, rfl, M4.out, by omega, fun x hx => by simp at hx, fun _ _ _ => rfl, ⟨Nat.le_refl _, fun _ _ _ => rfl⟩, B4.out⟩
      case round =>
        obtain ⟨wy, rfl⟩ : ∃ z : World, z = wr := ⟨_, rfl⟩
        obtain ⟨j, m, F, hj, rfl, hM, hm, hkn, hol, hsm, bely⟩ := hrel
        have szy := bely.size
        by_cases hjp : j < p
        · obtain ⟨bn, on, rfl, ln, n0, n1, n2⟩ := (NR.out.same OW4.out hsm).at hjp
          obtain ⟨x, hx⟩ : ∃ x, N.getD j default = x := ⟨_, rfl⟩
          rw [hx] at n0 n1 n2
          have hjN : j < N.length := by have := HP.out; omega
          have hxm : x ∈ N := by rw [← hx]; exact getD_mem hjN
          have hFx : F (whoV x.id x.theta) = !x.sus := by
            rw [hol x.id x.theta (fun y hy => by have := pair_take HTu2.out.2.2.1 hjN default y hy; rw [hx] at this; exact this)]
            exact HTu2.out.2.1 x hxm
          have hnx := fun y => (mem_take_succ (x := y) hjN default)
          rw [hx] at hnx
          have hpw := pair_take HTu2.out.2.2.1 hjN default
          rw [hx] at hpw
          have HPw := Lib.hid hpw
          obtain ⟨sus, hsus⟩ : ∃ v, x.sus = v := ⟨_, rfl⟩
          obtain ⟨xid, hxid⟩ : ∃ v, x.id = v := ⟨_, rfl⟩
          obtain ⟨xth, hxth⟩ : ∃ v, x.theta = v := ⟨_, rfl⟩
          rw [hsus] at n2 hFx
          rw [hxid] at n0 hFx
          rw [hxth] at n1 hFx
          have HX := Lib.hid (And.intro hxid (And.intro hxth hsus))
          have HNx := Lib.hid hnx
          have HFx := Lib.hid hFx
          have jw : IntKind.i64.wrap ((j : Int) + 1) = (j : Int) + 1 := IntWalk.i64_in _ (by omega)
          have HM1 := Lib.hid hM
          have HKn := Lib.hid hkn
          have HOl := Lib.hid hol
          have HSm := Lib.hid hsm
          have HBy := Lib.hid bely
          have Bly := hM.lt
          obtain ⟨lk, hlk⟩ := HKey.out x hxm
          rw [hxid, hxth] at hlk
          have HLk := Lib.hid hlk
          clear hx hxm hFx hnx hpw hsus hxid hxth hM hkn hol hsm bely hlk
          go_upto_region 12 with fail
          have b6 : Below wy.heap.size wy ((wy.alloc (.cells #[.string xid, .int .i64 xth, .bool sus] 92)).alloc (.cells #[.string xid, .int .i64 xth] 98)) := ((Below.refl wy.heap.size wy).alloc (Nat.le_refl _) _).alloc (by simp) _
          have y2 : ((wy.alloc (.cells #[.string xid, .int .i64 xth, .bool sus] 92)).alloc (.cells #[.string xid, .int .i64 xth] 98)).cell? ⟨wy.heap.size, 2, none⟩ = some (.bool sus) := by simp [qa]
          have u0 : ((wy.alloc (.cells #[.string xid, .int .i64 xth, .bool sus] 92)).alloc (.cells #[.string xid, .int .i64 xth] 98)).cell? ⟨wy.heap.size + 1, 0, none⟩ = some (.string xid) := by simp [qa]
          have u1 : ((wy.alloc (.cells #[.string xid, .int .i64 xth, .bool sus] 92)).alloc (.cells #[.string xid, .int .i64 xth] 98)).cell? ⟨wy.heap.size + 1, 1, none⟩ = some (.int .i64 xth) := by simp [qa]
          have z6 : ((wy.alloc (.cells #[.string xid, .int .i64 xth, .bool sus] 92)).alloc (.cells #[.string xid, .int .i64 xth] 98)).heap.size = wy.heap.size + 2 := by simp
          have M6 := Lib.hid (HM1.out.same (b6.block Bs Bly))
          have HB6 := Lib.hid b6
          generalize ((wy.alloc (.cells #[.string xid, .int .i64 xth, .bool sus] 92)).alloc (.cells #[.string xid, .int .i64 xth] 98)) = w6 at y2 u0 u1 z6 M6 HB6 ⊢
          obtain ⟨bx, hbx⟩ : ∃ x, wy.heap.size = x := ⟨_, rfl⟩
          rw [hbx] at y2 u0 u1 z6 ⊢
          have hbl : Bs < w6.heap.size := by omega
          have HRun := Lib.hid (fun (w' : World) (h : Below w6.heap.size w6 w') => (show (Instr.lookup 96 (.map (some Bs)) (.agg #[.string xid, .int .i64 xth]) false).run Try.prog w' = .ok (.bool (!sus)) w' from by
            have := (M6.out.same (h.block Bs hbl)).look who_law Try.underlying96 HLk.out
            rw [HFx.out] at this
            exact this))
          clear b6 n0 n1 n2 ln hbx
          have Y := Lib.hid (And.intro y2 (And.intro u0 u1))
          have z6' : bx + 1 < w6.heap.size := by omega
          have z6x : bx < w6.heap.size := by omega
          cases sus
          all_goals
            refine wp_region_quiet_all (Ext _) (by kernel_rfl) (by kernel_rfl) (Ext.drawn _) ?_
            repeat (first | go_big_quiet_skip | go_big_quiet_step (fail) | (refine BigFrame.wpQuiet_want rfl (fun K hK => ?_); apply Exists.intro; refine ⟨fun w2 h2 => ?_, ?_⟩; (next => (have g1 := Below.cells h2.below; have g2 := Below.frozens h2.below; (try simp only [World.size_alloc, World.size_setCell] at g1 g2); first | (go_simp; (have hl := HRun.out _ h2.below; simp [go_sem, hl]; rfl)) | (simp [go_sem, ↓IntWalk.iteOmega, *]; done) | (simp [go_sem, ↓IntWalk.iteOmega, *]; rfl)))); (go_simp; refine hK _ ?_; clear hK K))
            refine wpQuiet_nil ?_
            intro w7 h7
            have hb7 := h7.below
            clear h7
            have x2 := (hb7.cell (p := ⟨bx, 2, none⟩) z6x).trans Y.out.1
            have x0 := (hb7.cell (p := ⟨bx + 1, 0, none⟩) z6').trans Y.out.2.1
            have x1 := (hb7.cell (p := ⟨bx + 1, 1, none⟩) z6').trans Y.out.2.2
            have M7 := Lib.hid (M6.out.same (hb7.block Bs hbl))
            have HB7 := Lib.hid (HB6.out.trans (hb7.mono HB6.out.size))
            have z7 := hb7.size
            clear hb7 y2 u0 u1
            go_wp2_with (at_mapUpdate; refine wpList_mapB rfl _ _ _ rfl rfl M7.out who_law Try.underlying96 (by unfold maxLen; omega) (whoV xid xth) _ rfl rfl HLk.out ?_)
            intro w8 F8 hs8 ho8 hM8 hg8
            have HS8' := Lib.hid hs8
            have HO8 := Lib.hid ho8
            have M8 := Lib.hid hM8
            have HB8 := Lib.hid ((HBy.out.trans (HB7.out.mono szy)).grown hg8 (by have := HB7.out.size; omega) (fun j hj => by simp only [Option.some.injEq] at hj; omega))
            have HS8 := Lib.hid ((HSm.out.tr (Same.of_below HB7.out)).tr (Same.of_grown hg8))
            clear hM8 hg8 hs8 ho8
            go_wp2_with fail
            go_roundw
            case rel =>
              refine ⟨j + 1, m + 1, F8, by omega, by go_num, M8.out, by omega, fun y hy => ?_, fun id th hno => ?_, HS8.out, HB8.out⟩
              · rcases (HNx.out y).1 hy with hy | rfl
                · rw [HO8.out _ (who_ne (by have := HPw.out y hy; rw [HX.out.1, HX.out.2.1] at this; exact this))]
                  exact HKn.out y hy
                · rw [HX.out.1, HX.out.2.1, HX.out.2.2]
                  exact HS8'.out
              · rw [HO8.out _ (fun e => who_ne (by have := hno x ((HNx.out x).2 (.inr rfl)); rw [HX.out.1, HX.out.2.1] at this; exact this) e.symm)]
                exact HOl.out id th (fun y hy => hno y ((HNx.out y).2 (.inl hy)))
            case measure => simp [intOf]; omega
        · obtain rfl : p = j := by omega
          have hall : N.take p = N := List.take_of_length_le (by have := HP.out; omega)
          rw [hall] at hkn hol
          have HKv := Lib.hid (fun v (hv : v ∈ s'.subs) => (show F (whoV v.id v.theta) = v.on from by
            rcases HTu2.out.2.2.2 v hv with ⟨x, hx, e1, e2, e3⟩ | ⟨e1, e2⟩
            · have := hkn x hx
              rw [e1, e2, e3] at this
              exact this
            · rw [hol v.id v.theta e1]; exact e2))
          have ab : Below wy.heap.size wy (wy.alloc (.map #[] 0)) := (Below.refl _ _).alloc (Nat.le_refl _) _
          have MS := Lib.hid (hM.same (ab.block Bs hM.lt))
          have MN := Lib.hid (MapB.made 98 wy)
          have R5 := Lib.hid ((R4.out.same ⟨hsm.1, fun x hx hfx => hsm.2 x hx (F4.out x hfx).2.1⟩).below ab)
          have B5 := Lib.hid (bely.trans (ab.mono szy))
          have hBsl := hM.lt
          obtain ⟨BN, hBN⟩ : ∃ B, wy.heap.size = B := ⟨_, rfl⟩
          have HBN := Lib.hid (show w.heap.size ≤ BN ∧ Bs < BN ∧ (∀ x, f4 x → x < BN) from ⟨by omega, by omega, fun x hx => by have := (F4.out x hx).2.2; have := hsm.1; omega⟩)
          have zN : (wy.alloc (.map #[] 0)).heap.size = BN + 1 := by simp [hBN]
          clear hall hkn hol hM hsm bely ab hBsl
          go_wp2_with fail
          rw [hBN] at MN
          generalize wy.alloc (.map #[] 0) = w5 at MS MN R5 B5 zN ⊢
          clear hBN
          refine (HSu.out f4 w5 R5.out).mono ?_
          rintro e w6 ⟨A6, c6, rfl, own6, hb6⟩
          have SR := Lib.hid (srow_own own6 rfl)
          have SN := Lib.hid (own_ne own6 (show BN < w5.heap.size by omega))
          have qb := own_le own6
          have q8 := HOk2.out.pre.ok.subs
          obtain ⟨q, hq⟩ : ∃ q, s'.subs.length = q := ⟨_, rfl⟩
          rw [hq] at SR qb q8 ⊢
          have HQ := Lib.hid hq
          have MS6 := Lib.hid (MS.out.same (hb6.block Bs (by have := HBN.out.2.1; omega)))
          have MN6 := Lib.hid (MN.out.same (hb6.block BN (by omega)))
          have R6 := Lib.hid (R5.out.below hb6)
          have B6 := Lib.hid (B5.out.trans (hb6.mono B5.out.size))
          have z6 := hb6.size
          clear own6 hb6 hq
          go_wp2_with fail
          go_loopw [64] (fun i wz => ∃ (j m : Nat) (G : Value → Bool), j ≤ q ∧ i = .int .i64 j ∧ MapB 98 wz BN m G ∧ m ≤ j ∧ (∀ u ∈ s'.subs.take j, G (whoV u.id u.theta) = u.on) ∧ (∀ id th, (∀ u ∈ s'.subs.take j, ¬ (u.id = id ∧ u.theta = th)) → G (whoV id th) = false) ∧
            Same (fun x => x ≠ BN) w6 wz ∧ Below w.heap.size w wz) (fun i _ => q - (intOf i).toNat)
          case atStart => exact ⟨0, 0, _, Nat.zero_le _, rfl, MN6.out, by omega, fun u hu => by simp at hu, fun _ _ _ => rfl, ⟨Nat.le_refl _, fun _ _ _ => rfl⟩, B6.out⟩
          case round =>
            obtain ⟨wz, rfl⟩ : ∃ z : World, z = wr := ⟨_, rfl⟩
            obtain ⟨j, m2, G, hj, rfl, hM, hm2, hkn, hab, hsm, belz⟩ := hrel
            have szz := belz.size
            by_cases hjq : j < q
            · obtain ⟨bu, ou, rfl, lu, u0, u1, u2⟩ := (SR.out.same SN.out hsm).at hjq
              obtain ⟨u, hu⟩ : ∃ u, s'.subs.getD j default = u := ⟨_, rfl⟩
              rw [hu] at u0 u1 u2
              have hjS : j < s'.subs.length := by have := HQ.out; omega
              have hum : u ∈ s'.subs := by rw [← hu]; exact getD_mem hjS
              have hnu := fun y => (mem_take_succ (x := y) hjS default)
              rw [hu] at hnu
              have hpw := pair_take HOk2.out.pre.dist hjS default
              rw [hu] at hpw
              have hFu := HKv.out u hum
              have hLv := HLv.out u.id (HOk2.out.hasAll hum)
              have hon := HOk2.out.on u hum
              obtain ⟨lk, hlk⟩ := who_key (HOk2.out.key hum).1 (HOk2.out.key hum).2
              obtain ⟨uid, huid⟩ : ∃ x, u.id = x := ⟨_, rfl⟩
              obtain ⟨uth, huth⟩ : ∃ x, u.theta = x := ⟨_, rfl⟩
              obtain ⟨uon, huon⟩ : ∃ x, u.on = x := ⟨_, rfl⟩
              unfold onOf at hon
              rw [huid] at u0 hFu hLv hon hlk
              rw [huth] at u1 hFu hon hlk
              rw [huon] at u2 hFu hon
              obtain ⟨lvl, hlvl⟩ : ∃ v, levN s' uid = v := ⟨_, rfl⟩
              rw [hlvl] at hLv hon
              have HU := Lib.hid (And.intro huid (And.intro huth huon))
              have HNu := Lib.hid hnu
              have HPw := Lib.hid hpw
              have HFu := Lib.hid hFu
              have HLu := Lib.hid hLv
              have HLk := Lib.hid hlk
              have hdec : decide (uth ≤ lvl) = uon := hon.symm
              have HM1 := Lib.hid hM
              have HKn := Lib.hid hkn
              have HAb := Lib.hid hab
              have HSm := Lib.hid hsm
              have HBz := Lib.hid belz
              have Blz := hM.lt
              have Bsz : Bs < wz.heap.size := by have := HBN.out.2.1; omega
              have HMs := Lib.hid (MS6.out.same (hsm.2 Bs (by have := HBN.out.2.1; omega) (by have := HBN.out.2.1; omega)))
              have HRz := Lib.hid (R6.out.same ⟨hsm.1, fun x hx hfx => hsm.2 x hx (fun e => by have := HBN.out.2.2 x hfx; omega)⟩)
              have jw : IntKind.i64.wrap ((j : Int) + 1) = (j : Int) + 1 := IntWalk.i64_in _ (by omega)
              clear hu hum hnu hpw hFu hLv hon hlk huid huth huon hlvl hM hkn hab hsm belz
              go_upto_region 21 with fail
              have b6 : Below wz.heap.size wz ((wz.alloc (.cells #[.string uid, .int .i64 uth, .bool uon] 102)).alloc (.cells #[.string uid, .int .i64 uth] 98)) := ((Below.refl wz.heap.size wz).alloc (Nat.le_refl _) _).alloc (by simp) _
              have y0 : ((wz.alloc (.cells #[.string uid, .int .i64 uth, .bool uon] 102)).alloc (.cells #[.string uid, .int .i64 uth] 98)).cell? ⟨wz.heap.size, 0, none⟩ = some (.string uid) := by simp [qa]
              have y1 : ((wz.alloc (.cells #[.string uid, .int .i64 uth, .bool uon] 102)).alloc (.cells #[.string uid, .int .i64 uth] 98)).cell? ⟨wz.heap.size, 1, none⟩ = some (.int .i64 uth) := by simp [qa]
              have y2 : ((wz.alloc (.cells #[.string uid, .int .i64 uth, .bool uon] 102)).alloc (.cells #[.string uid, .int .i64 uth] 98)).cell? ⟨wz.heap.size, 2, none⟩ = some (.bool uon) := by simp [qa]
              have v0 : ((wz.alloc (.cells #[.string uid, .int .i64 uth, .bool uon] 102)).alloc (.cells #[.string uid, .int .i64 uth] 98)).cell? ⟨wz.heap.size + 1, 0, none⟩ = some (.string uid) := by simp [qa]
              have v1 : ((wz.alloc (.cells #[.string uid, .int .i64 uth, .bool uon] 102)).alloc (.cells #[.string uid, .int .i64 uth] 98)).cell? ⟨wz.heap.size + 1, 1, none⟩ = some (.int .i64 uth) := by simp [qa]
              have z7 : ((wz.alloc (.cells #[.string uid, .int .i64 uth, .bool uon] 102)).alloc (.cells #[.string uid, .int .i64 uth] 98)).heap.size = wz.heap.size + 2 := by simp
              have M7 := Lib.hid (HM1.out.same (b6.block BN Blz))
              have N7 := Lib.hid (HMs.out.same (b6.block Bs Bsz))
              have R7 := Lib.hid (HRz.out.below b6)
              have HB7 := Lib.hid b6
              generalize ((wz.alloc (.cells #[.string uid, .int .i64 uth, .bool uon] 102)).alloc (.cells #[.string uid, .int .i64 uth] 98)) = w7 at y0 y1 y2 v0 v1 z7 M7 N7 R7 HB7 ⊢
              obtain ⟨bx, hbx⟩ : ∃ x, wz.heap.size = x := ⟨_, rfl⟩
              rw [hbx] at y0 y1 y2 v0 v1 z7 Blz Bsz ⊢
              have Y := Lib.hid (And.intro y1 (And.intro y2 (And.intro v0 v1)))
              have hbx1 : bx + 1 < w7.heap.size := by omega
              have hbx0 : bx < w7.heap.size := by omega
              clear b6 u0 u1 u2 lu hbx v0 v1 y1 y2
              go_wp2_with fail
              refine (HLu.out f4 w7 R7.out).mono ?_
              rintro e w8 ⟨rfl, hb8⟩
              have x1 := (hb8.cell (p := ⟨bx, 1, none⟩) hbx0).trans Y.out.1
              have x2 := (hb8.cell (p := ⟨bx, 2, none⟩) hbx0).trans Y.out.2.1
              have x3 := (hb8.cell (p := ⟨bx + 1, 0, none⟩) hbx1).trans Y.out.2.2.1
              have x4 := (hb8.cell (p := ⟨bx + 1, 1, none⟩) hbx1).trans Y.out.2.2.2
              have M8 := Lib.hid (M7.out.same (hb8.block BN (by omega)))
              have N8 := N7.out.same (hb8.block Bs (by omega))
              have HB8 := Lib.hid (HB7.out.trans (hb8.mono HB7.out.size))
              have z8 := hb8.size
              have hbx1' : bx + 1 < w8.heap.size := by omega
              have hbx0' : bx < w8.heap.size := by omega
              have Bs8 : Bs < w8.heap.size := by omega
              have BN8 : BN < w8.heap.size := by omega
              have HRun := Lib.hid (fun (w' : World) (h : Below w8.heap.size w8 w') => (show (Instr.lookup 96 (.map (some Bs)) (.agg #[.string uid, .int .i64 uth]) false).run Try.prog w' = .ok (.bool uon) w' from by
                have := (N8.same (h.block Bs Bs8)).look who_law Try.underlying96 HLk.out
                rw [HFu.out] at this
                exact this))
              have X := Lib.hid (And.intro x2 (And.intro x3 x4))
              clear hb8 N8
              go_upto_region 22 with fail
              cases uon
              all_goals
                refine wp_region_quiet_all (Ext _) (by kernel_rfl) (by kernel_rfl) (Ext.drawn _) ?_
                repeat (first | go_big_quiet_skip | go_big_quiet_step (fail) | (refine BigFrame.wpQuiet_want rfl (fun K hK => ?_); apply Exists.intro; refine ⟨fun w2 h2 => ?_, ?_⟩; (next => (have g1 := Below.cells h2.below; have g2 := Below.frozens h2.below; (try simp only [World.size_alloc, World.size_setCell] at g1 g2); first | (go_simp; (have hl := HRun.out _ h2.below; simp [go_sem, hl]; rfl)) | (simp [go_sem, ↓IntWalk.iteOmega, *]; done) | (simp [go_sem, ↓IntWalk.iteOmega, *]; rfl)))); (go_simp; refine hK _ ?_; clear hK K))
                refine wpQuiet_nil ?_
                intro w9 h9
                have hb9 := h9.below
                clear h9
                have X2 := (hb9.cell (p := ⟨bx, 2, none⟩) hbx0').trans X.out.1
                have X3 := (hb9.cell (p := ⟨bx + 1, 0, none⟩) hbx1').trans X.out.2.1
                have X4 := (hb9.cell (p := ⟨bx + 1, 1, none⟩) hbx1').trans X.out.2.2
                have M9 := Lib.hid (M8.out.same (hb9.block BN BN8))
                have HB9 := Lib.hid (HB8.out.trans (hb9.mono HB8.out.size))
                clear hb9 x1 x2 x3 x4 y0
                go_wp2_with (at_mapUpdate; refine wpList_mapB rfl _ _ _ rfl rfl M9.out who_law Try.underlying96 (by unfold maxLen; omega) (whoV uid uth) _ rfl rfl HLk.out ?_)
                intro w10 F10 hs10 ho10 hM10 hg10
                have HS10' := Lib.hid hs10
                have HO10 := Lib.hid ho10
                have M10 := Lib.hid hM10
                have HB10 := Lib.hid ((HBz.out.trans (HB9.out.mono (by omega))).grown hg10 (by have := HB9.out.size; omega) (fun j hj => by simp only [Option.some.injEq] at hj; have := HBN.out.1; omega))
                have HS10 := Lib.hid ((HSm.out.tr (Same.of_below HB9.out)).tr (Same.of_grown hg10))
                clear hM10 hg10 hs10 ho10
                go_wp2_with fail
                go_roundw
                case rel =>
                  refine ⟨j + 1, m2 + 1, F10, by omega, by go_num, M10.out, by omega, fun y hy => ?_, fun id th hno => ?_, HS10.out, HB10.out⟩
                  · rcases (HNu.out y).1 hy with hy | rfl
                    · rw [HO10.out _ (who_ne (by have := HPw.out y hy; rw [HU.out.1, HU.out.2.1] at this; exact this))]
                      exact HKn.out y hy
                    · rw [HU.out.1, HU.out.2.1, HU.out.2.2]
                      exact HS10'.out
                  · rw [HO10.out _ (fun e => who_ne (by have := hno u ((HNu.out u).2 (.inr rfl)); rw [HU.out.1, HU.out.2.1] at this; exact this) e.symm)]
                    exact HAb.out id th (fun y hy => hno y ((HNu.out y).2 (.inl hy)))
                case measure => simp [intOf]; omega
            · obtain rfl : q = j := by omega
              have hall : s'.subs.take q = s'.subs := List.take_of_length_le (by have := HQ.out; omega)
              rw [hall] at hkn hab
              have HKn := Lib.hid hkn
              have HAb := Lib.hid hab
              have HM1 := Lib.hid hM
              have HBz := Lib.hid belz
              have HRz := Lib.hid (R6.out.same ⟨hsm.1, fun x hx hfx => hsm.2 x hx (fun e => by have := HBN.out.2.2 x hfx; omega)⟩)
              clear hall hkn hab hM hsm belz
              go_wp2_with fail
              go_roundw
              case rel => exact ⟨k + 1, m2, BN, s', f4, G, by omega, by go_num, rfl, HRz.out, HOk2.out, fun x hx => (F4.out x hx).1, HBz.out, HBN.out.1, fun h => by have := HBN.out.2.2 _ h; omega, HM1.out, by omega, HKn.out, HAb.out⟩
              case measure => simp [intOf]; omega
    · obtain rfl : n = k := by omega
      have HBe := Lib.hid bel
      clear hrep hok hf bel hkn hab hM hnB
      go_wp2_with fail
      go_ret
      exact ⟨rfl, HBe.out⟩
end Go.Proofs.Ytpomdnglknbanaa
