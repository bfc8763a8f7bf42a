/-
  slices.DeleteFunc at subs, with the closure of Leave.
-/
import Derived.Test.YtpomdnglknbanaaNx
import Derived.Test.YtpomdnglknbanaaKs
set_option linter.unusedSimpArgs false
set_option linter.unusedVariables false
namespace Go.Proofs.Ytpomdnglknbanaa
open Go Go.RowKit
theorem subsC_set3 (M : List Sub) (i : Nat) (hi : i < M.length) (u : Sub) : (((subsC M).set (i * 3) (.string u.id)).set (i * 3 + 1) (.int .i64 u.theta)).set (i * 3 + 2) (.bool u.on) = subsC (M.set i u) := by
  induction M generalizing i with
  | nil => simp at hi
  | cons v M ih =>
    cases i with
    | zero => rfl
    | succ i =>
      show ((((subC v ++ subsC M).set ((i + 1) * 3) _).set ((i + 1) * 3 + 1) _).set ((i + 1) * 3 + 2) _) = subC v ++ subsC (M.set i u)
      have hv : (subC v).length = 3 := rfl
      rw [List.set_append_right _ _ (by omega), List.set_append_right _ _ (by omega), List.set_append_right _ _ (by omega), ← ih i (by simpa using hi)]
      rw [show (i + 1) * 3 - (subC v).length = i * 3 by omega, show (i + 1) * 3 + 1 - (subC v).length = i * 3 + 1 by omega, show (i + 1) * 3 + 2 - (subC v).length = i * 3 + 2 by omega]
set_option maxRecDepth 100000 in
set_option maxHeartbeats 8000000 in
theorem delF_ok : DelF := by
  intro A n c L id b1 w own hLn hn hc1 hob
  have SR := srow_own own hLn
  have HIx := Lib.hid (index_leave A n c L id b1 w SR hn hc1)
  rcases idx_ge (hitI id) L with hx | ⟨hx0, hxl⟩
  · refine (delF_none A n c L id b1 w SR hn hc1 hx).mono ?_
    rintro e w' ⟨rfl, hb⟩
    have hf : L.filter (fun u => !hitI id u) = L := by
      rw [List.filter_eq_self]
      intro u hu
      have := idx_no hx u hu
      simp [this]
    rw [hf, hLn]
    exact ⟨rfl, own_below own hb, ⟨hb.os, hb.tape, hb.output, hb.size, fun x hx _ => hb.block x hx⟩⟩
  · obtain ⟨i0, hi0⟩ : ∃ i0 : Nat, idxS (hitI id) L = i0 := ⟨(idxS (hitI id) L).toNat, by omega⟩
    have hil : i0 < L.length := by omega
    have hfi : i0 = L.findIdx (hitI id) := by
      unfold idxS at hi0
      split at hi0 <;> omega
    have hhit : hitI id (L.getD i0 default) = true := by
      have := List.findIdx_getElem (w := by rw [← hfi]; exact hil) (xs := L) (p := hitI id)
      rw [List.getD_eq_getElem?_getD, List.getElem?_eq_getElem hil]
      simpa [hfi] using this
    have hbefore : ∀ j, j < i0 → hitI id (L.getD j default) = false := fun j hj => by
      rw [List.getD_eq_getElem?_getD, List.getElem?_eq_getElem (by omega)]
      have := List.not_of_lt_findIdx (p := hitI id) (xs := L) (i := j) (by omega)
      simpa using this
    have Mid0 := Lib.hid (Mid.start (p := fun u => !hitI id u) (L := L) hil (fun j hj => by rw [hbefore j hj]; rfl) (by rw [hhit]; rfl))
    rw [hi0] at HIx
    rcases own.2 with ⟨_, h⟩ | ⟨g, c', cur, h, hbg, hg, hnc, hcm, hcs, htk⟩
    · omega
    simp only [Value.slice.injEq, true_and] at h
    obtain ⟨rfl, rfl⟩ := h
    unfold maxLen at hcm
    have hgl := (Array.getElem?_eq_some_iff.1 hg).1
    have hgb : b1 ≠ g := fun e => hob (by rw [e]; rfl)
    have hbl := World.block_lt_of_cell? w _ hc1
    have hbl' : b1 < w.heap.size := hbl
    have HO := Lib.hid own
    have HC := Lib.hid hc1
    have HL := Lib.hid hLn
    have HF := Lib.hid leave1_ok
    have i1 : ((i0 : Int) == -1) = false := by simp
    have iw : IntKind.i64.wrap ((i0 : Int) + 1) = ((i0 + 1 : Nat) : Int) := by rw [IntWalk.i64_in _ (by omega)]; omega
    clear own SR hc1 hob hx0 hxl hi0 hfi hhit hbefore hg hcs htk hbl hbg cur
    have qa := alloc_cells
    have qf := alloc_frozens
    go_enter Try.func124, Try.ntmps124
    go_wp2_with fail
    refine HIx.out.mono ?_
    rintro e w1 ⟨rfl, hb1⟩
    have O1 := Lib.hid (own_below HO.out hb1)
    have G1 := Lib.hid (show w.grownBy w1 (some g) from ⟨hb1.os, hb1.tape, hb1.output, hb1.size, fun x hx _ => hb1.block x hx⟩)
    clear hb1
    go_wp2_with fail
    go_loopw [5, 6] (fun vi vj wr => ∃ (M : List Sub) (i j : Nat), vi = .int .i64 i ∧ vj = .int .i64 j ∧ i < j ∧ j ≤ n ∧ Mid (fun u => !hitI id u) L M i j ∧ wr.ownsRow 0 102 3 (.slice (some ⟨g, 0, none⟩) n c) n (subsC M) ∧ w.grownBy wr (some g)) (fun _ vj _ => n - (intOf vj).toNat)
    case atStart => exact ⟨L, i0, i0 + 1, rfl, rfl, by omega, by omega, Mid0.out, O1.out, G1.out⟩
    case round =>
      obtain ⟨M, i, j, rfl, rfl, hij, hj, hmid, hown, hgr⟩ := hrel
      have sz0 := hgr.size
      by_cases hlt : j < n
      · have hMl : M.length = n := by rw [hmid.len]; exact HL.out
        obtain ⟨bb, off, hA, lb, m0, m1, m2⟩ := (srow_own hown hMl).at hlt
        simp only [Option.some.injEq, Addr.mk.injEq, and_true] at hA
        obtain ⟨rfl, rfl⟩ := hA
        rw [Nat.zero_add] at m0 m1 m2
        rw [hmid.get (by have := HL.out; omega)] at m0 m1 m2
        obtain ⟨u, hu⟩ : ∃ u, L.getD j default = u := ⟨_, rfl⟩
        rw [hu] at m0 m1 m2
        obtain ⟨uid, huid⟩ : ∃ x, u.id = x := ⟨_, rfl⟩
        obtain ⟨uth, huth⟩ : ∃ x, u.theta = x := ⟨_, rfl⟩
        obtain ⟨uon, huon⟩ : ∃ x, u.on = x := ⟨_, rfl⟩
        rw [huid] at m0; rw [huth] at m1; rw [huon] at m2
        obtain ⟨r, hr⟩ : ∃ r, (uid.toList == id.toList) = r := ⟨_, rfl⟩
        have hh : hitI id u = r := by unfold hitI; rw [huid]; exact hr
        have cb : wr.cell? ⟨b1, 0, none⟩ = some (.string id) := (World.cell?_of_block (a := ⟨b1, 0, none⟩) (hgr.block b1 hbl' (fun e => hgb (by simpa using e)))).trans HC.out
        have jw : IntKind.i64.wrap ((j : Int) + 1) = (j : Int) + 1 := IntWalk.i64_in _ (by omega)
        have iw2 : IntKind.i64.wrap ((i : Int) + 1) = (i : Int) + 1 := IntWalk.i64_in _ (by omega)
        have HMd := Lib.hid hmid
        have HOw := Lib.hid hown
        have HGr := Lib.hid hgr
        have HU := Lib.hid (And.intro huid (And.intro huth huon))
        have HUu := Lib.hid hu
        have HH := Lib.hid hh
        have HRr := Lib.hid hr
        have hnI : (i : Int) < n := by omega
        have hni : i < n := by omega
        clear hmid hown hgr hu huid huth huon hh hr
        have lb' : g < wr.heap.size := lb
        cases r with
        | true =>
          go_wp2_with fail
          refine (HF.out uid id uth uon b1 true _ (by simp [go_sem, ↓IntWalk.iteOmega, *]) (by simp; omega) HRr.out).mono ?_
          rintro e w2 ⟨rfl, hb2⟩
          have ab : Below wr.heap.size wr w2 := ((Below.refl wr.heap.size wr).alloc (Nat.le_refl _) (.cells #[.string uid, .int .i64 uth, .bool uon] 102)).trans (hb2.mono (by simp))
          have O2 := Lib.hid (own_below HOw.out ab)
          have G2 := Lib.hid (show w.grownBy w2 (some g) from grown_trans HGr.out ⟨ab.os, ab.tape, ab.output, ab.size, fun x hx _ => ab.block x hx⟩)
          clear hb2 ab
          go_wp2_with fail
          go_roundw
          case rel => exact ⟨M, i, j + 1, rfl, by go_num, by omega, by omega, HMd.out.skip (by have := HL.out; omega) (by rw [HUu.out, HH.out]; rfl), O2.out, G2.out⟩
          case measure => simp [intOf]; omega
        | false =>
          go_wp2_with fail
          refine (HF.out uid id uth uon b1 false _ (by simp [go_sem, ↓IntWalk.iteOmega, *]) (by simp; omega) HRr.out).mono ?_
          rintro e w2 ⟨rfl, hb2⟩
          have ab : Below wr.heap.size wr w2 := ((Below.refl wr.heap.size wr).alloc (Nat.le_refl _) (.cells #[.string uid, .int .i64 uth, .bool uon] 102)).trans (hb2.mono (by simp))
          have O2 := own_below HOw.out ab
          have G2 := Lib.hid (show w.grownBy w2 (some g) from grown_trans HGr.out ⟨ab.os, ab.tape, ab.output, ab.size, fun x hx _ => ab.block x hx⟩)
          have x0 : w2.cell? ⟨wr.heap.size, 0, none⟩ = some (.string uid) := (hb2.cell (p := ⟨wr.heap.size, 0, none⟩) (by simp)).trans (by simp [qa])
          have x1 : w2.cell? ⟨wr.heap.size, 1, none⟩ = some (.int .i64 uth) := (hb2.cell (p := ⟨wr.heap.size, 1, none⟩) (by simp)).trans (by simp [qa])
          have x2 : w2.cell? ⟨wr.heap.size, 2, none⟩ = some (.bool uon) := (hb2.cell (p := ⟨wr.heap.size, 2, none⟩) (by simp)).trans (by simp [qa])
          have hMl2 : M.length = n := by rw [HMd.out.len]; exact HL.out
          obtain ⟨b2, off2, hA2, lb2, y0, y1, y2⟩ := (srow_own O2 hMl2).at hni
          simp only [Option.some.injEq, Addr.mk.injEq, and_true] at hA2
          obtain ⟨rfl, rfl⟩ := hA2
          rw [Nat.zero_add] at y0 y1 y2
          have fz : ∀ o, w2.frozen? ⟨g, o, none⟩ = false := by
            rcases O2.2 with ⟨h, _⟩ | ⟨g', c', cur, h, _, hg, _⟩
            · cases h
            · simp only [Value.slice.injEq, Option.some.injEq, Addr.mk.injEq, and_true, true_and] at h
              obtain ⟨rfl, rfl⟩ := h
              exact (block_cells hg).2
          have HO2 := Lib.hid O2
          have hne : g ≠ wr.heap.size := by omega
          clear hb2 ab O2 m0 m1 m2 cb
          go_wp2_with fail
          have O5 := own_setC (own_setC (own_setC HO2.out (i * 3) (.string uid)) (i * 3 + 1) (.int .i64 uth)) (i * 3 + 2) (.bool uon)
          have es := subsC_set3 M i (by omega) u
          rw [HU.out.1, HU.out.2.1, HU.out.2.2] at es
          rw [es, ← HUu.out] at O5
          have G5 := grown_trans G2.out (grown_trans (grown_set w2 g (i * 3) (.string uid)) (grown_trans (grown_set _ g (i * 3 + 1) (.int .i64 uth)) (grown_set _ g (i * 3 + 2) (.bool uon))))
          go_roundw
          case rel => exact ⟨_, i + 1, j + 1, by go_num, by go_num, by omega, by omega, HMd.out.keep (by have := HL.out; omega) (by rw [HUu.out, HH.out]; rfl), O5, G5⟩
          case measure => simp [intOf]; omega
      · obtain rfl : n = j := by omega
        have hln := HL.out
        obtain ⟨he1, he2⟩ := (show Mid (fun u => !hitI id u) L M i L.length by rw [hln]; exact hmid).end
        have hMl : M.length = n := by rw [hmid.len]; exact hln
        rcases hown.2 with ⟨h, _⟩ | ⟨g', c'', cur, h, _, hg, hnc', hcm', hcs, htk⟩
        · cases h
        simp only [Value.slice.injEq, Option.some.injEq, Addr.mk.injEq, and_true, true_and] at h
        obtain ⟨rfl, rfl⟩ := h
        have hcl : cur.toList.length = c * 3 := by simpa using hcs
        have hic : ¬ c = i := by omega
        have hic2 : ¬ i = c := by omega
        have hin : i ≤ n := by omega
        have hicc : i ≤ c := by omega
        have hg1 : wr.heap[g]? = some (.cells cur.toList.toArray 102 (0, 0)) := by rw [Array.toArray_toList]; exact hg
        obtain ⟨W2, hcl2, G2, only2⟩ := run_clear_splice (P := Try.prog) wr 99 0 102 zeroU 3 info_subs zeroU_run zeroU_cells zeroU_one (by omega) (some ⟨g, i * 3, none⟩) (n - i) (c - i) g (i * 3) _ _ hg1 (fun _ => rfl) (by omega)
        have hsl := length_splice cur.toList (i * 3) (zeros zeroU.cells (n - i)) (by rw [zeros_len, zeroU_cells]; omega)
        have hrs : (splice cur.toList (i * 3) (zeros zeroU.cells (n - i))).take (i * 3) = subsC (L.filter (fun u => !hitI id u)) := by
          rw [splice_take_le (by omega) (Nat.le_refl _), ← he1]
          have h1 := subsC_app (M.take i) (M.drop i)
          rw [List.take_append_drop] at h1
          have h2 : (subsC (M.take i)).length = i * 3 := by rw [subsC_len, List.length_take, Nat.min_eq_left (by omega)]
          have h3 : cur.toList.take (i * 3) = (subsC M).take (i * 3) := by rw [← htk, List.take_take, Nat.min_eq_left (by omega)]
          rw [h3, h1, ← h2, List.take_left]
        have OW := Lib.hid (show W2.ownsRow 0 102 3 (.slice (some ⟨g, 0, none⟩) (L.filter (fun u => !hitI id u)).length c) (L.filter (fun u => !hitI id u)).length (subsC (L.filter (fun u => !hitI id u))) from by
          rw [← he2]
          refine ⟨?_, .inr ⟨g, c, _, rfl, Nat.zero_le _, G2, by omega, by unfold maxLen; omega, by simpa [hcl] using hsl, by simpa using hrs⟩⟩
          rw [← hrs, List.length_take, hsl, hcl]; omega)
        have GR := Lib.hid (grown_trans hgr only2.grown)
        have HE2 := Lib.hid he2
        clear hown hg hg1 hcs htk hcl G2 only2 hsl hrs hmid hgr he1 he2 hMl
        go_wp2_with fail
        go_ret
        exact ⟨by rw [← HE2.out]; rfl, OW.out, GR.out⟩
end Go.Proofs.Ytpomdnglknbanaa
