/-
  hwkeep.WinLast: whatever is pushed, the window has the last values, in order.
-/
import Derived.Test.YtamncanlbopehaaPu2
import Derived.Test.YtamncanlbopehaaEq
import Derived.Test.YtamncanlbopehaaAp
import Derived.Test.YtamncanlbopehaaP1
set_option linter.unusedSimpArgs false
set_option linter.unusedVariables false
namespace Go.Proofs.Ytamncanlbopehaa
open Go.RowKit

/-- The last z of a list. -/
def lastN (z : Int) (D : List Int) : List Int := D.drop (D.length - z.toNat)
theorem lastN_nil (z : Int) : lastN z [] = [] := by simp [lastN]
theorem lastN_len {z : Int} (D : List Int) : (lastN z D).length = min z.toNat D.length := by simp [lastN]; omega
theorem lastN_push {z : Int} (D : List Int) (v : Int) (hz : 1 ≤ z) : pushd z (lastN z D) v = lastN z (D ++ [v]) := by
  have hl := lastN_len (z := z) D
  unfold pushd
  by_cases h : ((lastN z D).length : Int) = z
  · rw [if_pos h]
    unfold lastN
    rw [List.drop_drop, List.length_append, List.length_singleton, List.drop_append_of_le_length (by omega)]
    congr 2
    omega
  · rw [if_neg h]
    unfold lastN
    rw [show D.length - z.toNat = 0 by omega, List.length_append, List.length_singleton, show D.length + 1 - z.toNat = 0 by omega]
    rfl
theorem lastN_btw {a b z : Int} {D : List Int} (h : Btw a b D) : Btw a b (lastN z D) := fun x hx => h x (List.mem_of_mem_drop hx)

theorem lit2 (w : World) (o : Obj) (T : TypeId) (l : List Int) (n : Nat) (hn : l.length = n) : Row ((w.alloc o).alloc (.cells (l.map (Value.int .i64)).toArray T)) (some ⟨w.heap.size + 1, 0, none⟩) n l := by
  have h := Row.lit (w.alloc o) T l n hn
  rwa [World.size_alloc] at h

set_option maxRecDepth 100000 in
set_option maxHeartbeats 16000000 in
theorem winLast_walk (s : Int) (a : Option Addr) (len cap : Nat) (l : List Int) (w : World) (_ : (Lit.int .i64 s).wf = true) (hin : InRow w a len cap l) :
    Calls Try.prog 11 #[.int .i64 s, .slice a len cap] w fun e w' =>
      e = .returned (.bool true) ∧ Below w.heap.size w w' := by
  have b1 := within_bd s (n := 64) (by omega)
  obtain ⟨X, hX⟩ : ∃ X, within s 64 = X := ⟨_, rfl⟩
  obtain ⟨Z, hZ⟩ : ∃ Z, 1 + X = Z := ⟨_, rfl⟩
  rw [hX] at b1
  have zb : 1 ≤ Z ∧ Z ≤ 64 := by omega
  have HX := Lib.hid hX
  have hwz : IntKind.i64.wrap (1 + X) = Z := by rw [hZ]; exact IntWalk.i64_in _ (by omega)
  clear hX hZ
  obtain ⟨MM, hM1, hM2⟩ : ∃ MM : Nat, MM ≤ len ∧ ((MM = len ∧ (len : Int) ≤ 200) ∨ (¬ (len : Int) ≤ 200 ∧ MM = 200)) := by
    by_cases c : (len : Int) ≤ 200
    · exact ⟨len, Nat.le_refl _, .inl ⟨rfl, c⟩⟩
    · exact ⟨200, by omega, .inr ⟨c, rfl⟩⟩
  have hb1 : ∀ k, k < MM → ∃ b off, a = some ⟨b, off, none⟩ ∧ b < w.heap.size ∧ w.cell? ⟨b, off + k, none⟩ = some (.int .i64 (l.getD k 0)) := fun k hk => hin.1.each k (by omega)
  have HB1 := Lib.hid hb1
  have HP := Lib.hid (fun w' A n c (h : InRow w' A n c [3]) (hn : (n : Int) ≤ 1) => push_ok 1 4 A n c [3] w' h (by omega) hn (by intro x hx; simp at hx; omega) (by omega))
  have HP2 := Lib.hid (fun D v w' A n c (h : InRow w' A n c (lastN Z D)) (hn : (n : Int) ≤ Z) (hb : Btw 0 16777216 D) (hv : 0 ≤ v ∧ v ≤ 16777216) => (lastN_push D v zb.1) ▸ push_ok Z v A n c (lastN Z D) w' h zb hn (lastN_btw hb) hv)
  have HP3 := Lib.hid (fun D v w' A n c (h : Row w' A n (lastN Z D)) (hn : (n : Int) ≤ Z) (hb : Btw 0 16777216 D) (hv : ¬ (0 ≤ v ∧ v ≤ 16777216)) => push_bad Z v A n c (lastN Z D) w' h zb hn (lastN_btw hb) hv)
  have cp := hin.2.1
  have mx := hin.2.2.1
  unfold maxLen at mx
  obtain ⟨i0, hi, hz0, hz1, hz2⟩ := info_parts info_int
  have qa := alloc_cells
  have qf := alloc_frozens
  clear hin hb1
  rcases hM2 with ⟨h1, h2⟩ | ⟨h1, h2⟩
  all_goals
    go_enter Try.func11, Try.ntmps11
    go_wp2_with fail
    refine (HP.out _ _ 1 1 ⟨Row.lit w 3 [3] 1 rfl, by omega, by unfold maxLen; omega, fun h => by cases h⟩ (by omega)).mono ?_
    rintro e w1 ⟨A1, n1, c1_, rfl, o1, hb1⟩
    rw [show pushd 1 [3] 4 = [4] by simp [pushd]] at o1
    obtain rfl : n1 = 1 := by have := o1.1; simp at this; omega
    have R1 := Lib.hid (Row.of_own o1)
    clear o1
    have z1 := hb1.size
    have c1 := Below.cells hb1
    have f1 := Below.frozens hb1
    try simp only [World.size_alloc, World.size_setCell, World.size_drew] at z1 c1 f1
    go_wp2_with fail
    refine (equal_ok A1 (some ⟨w1.heap.size + 1, 0, none⟩) 1 c1_ 1 1 [4] _ (R1.out.below (by repeat (first | (with_reducible exact Below.refl _ _) | ((with_reducible refine Below.alloc ?_ ?_ _); rotate_left; (next => ((try dsimp only); (try simp only [World.size_alloc, World.size_setCell, World.size_drew]); omega))) | ((with_reducible refine Below.setCell ?_ ?_ _); rotate_left; (next => ((try dsimp only); (try simp only [World.size_alloc, World.size_setCell, World.size_drew]); omega))) | (with_reducible refine Below.drew ?_) | (refine Below.trans ?_ (by assumption))))) (lit2 w1 _ 3 [4] 1 rfl) (by omega)).mono ?_
    rintro e w2 ⟨rfl, hb2⟩
    have z2 := hb2.size
    have c2 := Below.cells hb2
    have f2 := Below.frozens hb2
    try simp only [World.size_alloc, World.size_setCell, World.size_drew] at z2 c2 f2
    go_wp2_with fail
    refine (within_any s 64 X _ (by omega) (by omega) HX.out).mono ?_
    rintro e w' ⟨rfl, rfl⟩
    go_wp2_with fail
    have HC1 := Lib.hid (cells_below HB1.out (w' := w2) (by repeat (first | (with_reducible exact Below.refl _ _) | ((with_reducible refine Below.alloc ?_ ?_ _); rotate_left; (next => ((try dsimp only); (try simp only [World.size_alloc, World.size_setCell, World.size_drew]); omega))) | ((with_reducible refine Below.setCell ?_ ?_ _); rotate_left; (next => ((try dsimp only); (try simp only [World.size_alloc, World.size_setCell, World.size_drew]); omega))) | (with_reducible refine Below.drew ?_) | ((with_reducible refine Below.trans ?_ (Below.mono hb2 ?_)); rotate_left; (next => ((try dsimp only); (try simp only [World.size_alloc, World.size_setCell, World.size_drew]); omega))) | ((with_reducible refine Below.trans ?_ (Below.mono hb1 ?_)); rotate_left; (next => ((try dsimp only); (try simp only [World.size_alloc, World.size_setCell, World.size_drew]); omega))))))
    have HB0 := Lib.hid (show Below w.heap.size w w2 from (by repeat (first | (with_reducible exact Below.refl _ _) | ((with_reducible refine Below.alloc ?_ ?_ _); rotate_left; (next => ((try dsimp only); (try simp only [World.size_alloc, World.size_setCell, World.size_drew]); omega))) | ((with_reducible refine Below.setCell ?_ ?_ _); rotate_left; (next => ((try dsimp only); (try simp only [World.size_alloc, World.size_setCell, World.size_drew]); omega))) | (with_reducible refine Below.drew ?_) | ((with_reducible refine Below.trans ?_ (Below.mono hb2 ?_)); rotate_left; (next => ((try dsimp only); (try simp only [World.size_alloc, World.size_setCell, World.size_drew]); omega))) | ((with_reducible refine Below.trans ?_ (Below.mono hb1 ?_)); rotate_left; (next => ((try dsimp only); (try simp only [World.size_alloc, World.size_setCell, World.size_drew]); omega))))))
    have K0 : ∀ T, (w2.alloc (.cells #[.int .i64 Z, .slice none 0 0] T)).cell? ⟨w2.heap.size, 0, none⟩ = some (.int .i64 Z) := by intro T; simp [qa, ↓IntWalk.iteOmega]
    have K1 : ∀ T, (w2.alloc (.cells #[.int .i64 Z, .slice none 0 0] T)).cell? ⟨w2.heap.size, 1, none⟩ = some (.slice none 0 0) := by intro T; simp [qa, ↓IntWalk.iteOmega]
    have K2 : ∀ T o, (w2.alloc (.cells #[.int .i64 Z, .slice none 0 0] T)).frozen? ⟨w2.heap.size, o, none⟩ = false := by intro T o; simp [qf, ↓IntWalk.iteOmega]
    clear c1 f1 c2 f2
    go_loopw [8, 38] (fun v i wr => ∃ (k : Nat) (D : List Int) (A7 : Option Addr) (n7 c7 : Nat), k ≤ MM ∧ i = .int .i64 k ∧ D.length ≤ k ∧ Btw 0 16777216 D ∧ wr.ownsRow (w2.heap.size + 1) 3 1 v D.length (D.map (Value.int .i64)) ∧ wr.ownsRow (w2.heap.size + 1) 3 1 (.slice A7 n7 c7) n7 ((lastN Z D).map (Value.int .i64)) ∧ Far2 v (.slice A7 n7 c7) ∧ wr.cell? ⟨w2.heap.size, 0, none⟩ = some (.int .i64 Z) ∧ wr.cell? ⟨w2.heap.size, 1, none⟩ = some (.slice A7 n7 c7) ∧ (∀ o, wr.frozen? ⟨w2.heap.size, o, none⟩ = false) ∧ Below w2.heap.size w2 wr ∧ w2.heap.size < wr.heap.size) (fun _ i _ => MM - (intOf i).toNat)
    case atStart => exact ⟨0, [], none, 0, 0, Nat.zero_le _, rfl, Nat.le_refl _, (fun x hx => by cases hx), World.ownsRow_nil _ _ _ _, by rw [lastN_nil]; exact World.ownsRow_nil _ _ _ _, far2_nil _, K0 _, K1 _, K2 _, (Below.refl _ _).alloc (Nat.le_refl _) _, by simp⟩
    case round =>
      clear K0 K1 K2
      obtain ⟨k, D, A7, n7, c7, hk, rfl, hd, hD, ov, o7, fr, K0, K1, K2, bel, hsz⟩ := hrel
      by_cases hlt : k < MM
      · obtain ⟨bkx, offx, hAx, ltx, hrx⟩ := HC1.out k hlt
        subst hAx
        replace hrx := (bel.cell (p := ⟨bkx, offx + k, none⟩) ltx).trans hrx
        obtain ⟨x, hvx, hxx⟩ := name_num hrx
        have HX := Lib.hid hvx
        clear hvx hrx
        have hn7 : (n7 : Int) ≤ Z := by have h1 := o7.1; have h2 := lastN_len (z := Z) D; simp at h1; omega
        obtain ⟨A', c', e', p1, p2, p3⟩ := own_form o7
        simp only [Value.slice.injEq] at e'
        obtain ⟨rfl, -, rfl⟩ := e'
        have R7 := Lib.hid (show InRow wr A7 n7 c7 (lastN Z D) from ⟨Row.of_own o7, p1, p2, p3⟩)
        clear p1 p2 p3
        by_cases hv : 0 ≤ x ∧ x ≤ 16777216
        · have HV := Lib.hid hv
          have HD := Lib.hid hD
          have OV := Lib.hid ov
          have O7 := Lib.hid o7
          have FR := Lib.hid fr
          clear hv hD ov o7 fr
          go_wp2_with fail
          refine (HP2.out D x _ A7 n7 c7 R7.out hn7 HD.out HV.out).mono ?_
          rintro e w3 ⟨A8, n8, c8, rfl, o8, hb3⟩
          have z3 := hb3.size
          have K03 := (hb3.cell (p := ⟨w2.heap.size, 0, none⟩) hsz).trans K0
          have K13 := (hb3.cell (p := ⟨w2.heap.size, 1, none⟩) hsz).trans K1
          have K23 := fun o => (hb3.frozen (p := ⟨w2.heap.size, o, none⟩) hsz).trans (K2 o)
          have bel3 : Below w2.heap.size w2 w3 := bel.trans (hb3.mono (by omega))
          have fr8 := far2_new OV.out o8
          have ov3 := own_below OV.out hb3
          have ov3' : w3.ownsRow (w2.heap.size + 1) 3 1 u8 D.length (D.map (Value.int .i64)) := ov3
          have OV3 := Lib.hid ov3'
          clear ov3'
          have H0 : ∀ T, (w3.alloc (.cells #[.int .i64 Z, .slice A8 n8 c8] T)).cell? ⟨w3.heap.size, 0, none⟩ = some (.int .i64 Z) := by intro T; simp [qa, ↓IntWalk.iteOmega]
          have H1 : ∀ T, (w3.alloc (.cells #[.int .i64 Z, .slice A8 n8 c8] T)).cell? ⟨w3.heap.size, 1, none⟩ = some (.slice A8 n8 c8) := by intro T; simp [qa, ↓IntWalk.iteOmega]
          have H2 : ∀ T, (w3.alloc (.cells #[.int .i64 Z, .slice A8 n8 c8] T)).cell? ⟨w2.heap.size, 0, none⟩ = some (.int .i64 Z) := by intro T; simp [qa, ↓IntWalk.iteOmega, *]
          have H3 : ∀ T, (w3.alloc (.cells #[.int .i64 Z, .slice A8 n8 c8] T)).cell? ⟨w2.heap.size, 1, none⟩ = some (.slice A7 n7 c7) := by intro T; simp [qa, ↓IntWalk.iteOmega, *]
          have H4 : ∀ T o, (w3.alloc (.cells #[.int .i64 Z, .slice A8 n8 c8] T)).frozen? ⟨w2.heap.size, o, none⟩ = false := by intro T o; simp [qf, ↓IntWalk.iteOmega, *]
          have H5 : ∀ T, (w3.alloc (.cells #[.int .i64 Z, .slice A8 n8 c8] T)).ownsRow (w2.heap.size + 1) 3 1 u8 D.length (D.map (Value.int .i64)) := fun T => ov3.alloc _
          have H6 : ∀ T, (w3.alloc (.cells #[.int .i64 Z, .slice A8 n8 c8] T)).ownsRow (w2.heap.size + 1) 3 1 (.slice A8 n8 c8) n8 ((lastN Z (D ++ [x])).map (Value.int .i64)) := fun T => own_mono (o8.alloc _) (by omega)
          have H7 : ∀ T, Below w2.heap.size w2 (w3.alloc (.cells #[.int .i64 Z, .slice A8 n8 c8] T)) := fun T => bel3.alloc (by omega) _
          have H8 : ∀ T, (w3.alloc (.cells #[.int .i64 Z, .slice A8 n8 c8] T)).heap.size = w3.heap.size + 1 := fun T => by simp
          have HH := Lib.hid (⟨H0, H1, H2, H3, H4, H5, H6, H7, H8⟩ : _ ∧ _ ∧ _ ∧ _ ∧ _ ∧ _ ∧ _ ∧ _ ∧ _)
          clear H0 H1 H2 H3 H4 H5 H6 H7 H8 o8 ov3
          go_wp2_with fail
          obtain ⟨H0, H1, H2, H3, H4, H5, H6, H7, H8⟩ := HH.out
          generalize hw4 : World.alloc w3 (Obj.cells #[Value.int .i64 Z, Value.slice A8 n8 c8] _) = w4
          have M0 : w4.cell? ⟨w3.heap.size, 0, none⟩ = some (.int .i64 Z) := hw4 ▸ H0 _
          have M1 : w4.cell? ⟨w3.heap.size, 1, none⟩ = some (.slice A8 n8 c8) := hw4 ▸ H1 _
          have M2 : w4.cell? ⟨w2.heap.size, 0, none⟩ = some (.int .i64 Z) := hw4 ▸ H2 _
          have M3 : w4.cell? ⟨w2.heap.size, 1, none⟩ = some (.slice A7 n7 c7) := hw4 ▸ H3 _
          have M4 : ∀ o, w4.frozen? ⟨w2.heap.size, o, none⟩ = false := hw4 ▸ H4 _
          have M5 : w4.ownsRow (w2.heap.size + 1) 3 1 u8 D.length (D.map (Value.int .i64)) := hw4 ▸ H5 _
          have M6 : w4.ownsRow (w2.heap.size + 1) 3 1 (.slice A8 n8 c8) n8 ((lastN Z (D ++ [x])).map (Value.int .i64)) := hw4 ▸ H6 _
          have M7 : Below w2.heap.size w2 w4 := hw4 ▸ H7 _
          have M8 : w4.heap.size = w3.heap.size + 1 := hw4 ▸ H8 _
          clear H0 H1 H2 H3 H4 H5 H6 H7 H8 HH hw4 K0 K1 K2 K03 K13 K23 bel bel3 O7 hb3 OV FR qa qf
          have M9 : w3.heap.size < w4.heap.size := by omega
          clear M8
          have N5 := Lib.hid M5
          have N6 := Lib.hid M6
          have N7 := Lib.hid M7
          have NF := Lib.hid fr8
          clear M5 M6 M7 fr8
          go_region_held3 (fun w' => w'.cell? ⟨w3.heap.size, 0, none⟩ = some (.int .i64 Z) ∧ w'.cell? ⟨w3.heap.size, 1, none⟩ = some (.slice A8 n8 c8))
            (first | exact ⟨by assumption, by assumption⟩ | exact ⟨m0, m1⟩ | exact ⟨by rw [alloc_cells, if_pos (by omega)]; exact M0, by rw [alloc_cells, if_pos (by omega)]; exact M1⟩ | exact ⟨(alloc_cells w4 _ _ _ _).trans (by rw [if_pos (by omega)]; exact M0), (alloc_cells w4 _ _ _ _).trans (by rw [if_pos (by omega)]; exact M1)⟩ | (refine ⟨?_, ?_⟩ <;> (rw [World.cell?_setCell_far _ _ _ _ (by simp; omega), World.cell?_setCell_far _ _ _ _ (by simp; omega)]; (first | exact m0 | exact m1))))
            ((refine step_append_lies _ (by rfl) _ _ _ (by rfl) (w2.heap.size + 1) 3 i0 _ 1 8 Try.underlying28 hi hz0 hz1 hz2 rfl (by omega) _ D.length (D.map (Value.int .i64)) (by rfl) ((N5.out.alloc _).drew)
                ⟨w4.heap.size, 0, none⟩ 1 1 [.int .i64 x] (by rfl) (by rfl) (World.news_of_block (cs := #[.int .i64 x]) (t := 3) (fr := (0, 0)) (heap_alloc_new w4 _)) (app1_one _ _)
                (by omega) (by unfold maxLen; omega) (by omega) (by simp; omega) (w4.heap.size + 1) (by simp) ?_; intro gg cg wq ownq grq atq ltq;
              have hnb : ∀ b, b < w4.heap.size → some b ≠ u8.ownBlock → wq.heap[b]? = w4.heap[b]? := fun b hb hne => (grq.block b (by simp; omega) hne).trans (Below.heap_alloc w4 _ b hb);
              have ne3 : some w3.heap.size ≠ u8.ownBlock := fun e => by have := (OV3.out.lt _ e.symm).2; omega;
              have ne2 : some w2.heap.size ≠ u8.ownBlock := fun e => by have := (OV3.out.lt _ e.symm).1; omega;
              have m0 : wq.cell? ⟨w3.heap.size, 0, none⟩ = some (.int .i64 Z) := (World.cell?_of_block (hnb w3.heap.size M9 ne3)).trans M0;
              have m1 : wq.cell? ⟨w3.heap.size, 1, none⟩ = some (.slice A8 n8 c8) := (World.cell?_of_block (hnb w3.heap.size M9 ne3)).trans M1;
              have m2 : wq.cell? ⟨w2.heap.size, 0, none⟩ = some (.int .i64 Z) := (World.cell?_of_block (hnb w2.heap.size (by omega) ne2)).trans M2;
              have m3 : wq.cell? ⟨w2.heap.size, 1, none⟩ = some (.slice A7 n7 c7) := (World.cell?_of_block (hnb w2.heap.size (by omega) ne2)).trans M3;
              have m4 : ∀ o, wq.frozen? ⟨w2.heap.size, o, none⟩ = false := fun o => (World.frozen?_of_block (hnb w2.heap.size (by omega) ne2)).trans (M4 o)))
          all_goals
            have hat : ∀ g, (Value.slice (some ⟨gg, 0, none⟩) (D.length + 1) cg).ownBlock = some g → u8.ownBlock = some g ∨ ((w4.alloc (.cells #[Value.int .i64 x] 3)).drew).heap.size ≤ g := by
              intro g hg
              have : gg = g := by simpa [Value.ownBlock] using hg
              subst this
              rcases atq with h | h
              · exact .inl h
              · right; simp; omega
            obtain ⟨p6, f6⟩ := own_beside2 ((N6.out.alloc (.cells #[Value.int .i64 x] 3)).drew) NF.out grq hat
            have q6 := own_set (own_set p6 (b := w2.heap.size) (by omega) 0 (.int .i64 Z)) (b := w2.heap.size) (by omega) 1 (.slice A8 n8 c8)
            have ownq2 : wq.ownsRow (w2.heap.size + 1) 3 1 (.slice (some ⟨gg, 0, none⟩) (D.length + 1) cg) (D ++ [x]).length ((D ++ [x]).map (Value.int .i64)) := by simpa using ownq
            have q5 := own_set (own_set ownq2 (b := w2.heap.size) (by omega) 0 (.int .i64 Z)) (b := w2.heap.size) (by omega) 1 (.slice A8 n8 c8)
            have q7 : Below w2.heap.size w2 ((wq.setCell ⟨w2.heap.size, 0, none⟩ (.int .i64 Z)).setCell ⟨w2.heap.size, 1, none⟩ (.slice A8 n8 c8)) := ((((N7.out.alloc (by omega) _).drew).grown grq (by simp; omega) (fun g e => by have := (OV3.out.lt g e).1; omega)).setCell (p := ⟨w2.heap.size, 0, none⟩) (Nat.le_refl _) _).setCell (p := ⟨w2.heap.size, 1, none⟩) (Nat.le_refl _) _
            have c0 : ((wq.setCell ⟨w2.heap.size, 0, none⟩ (.int .i64 Z)).setCell ⟨w2.heap.size, 1, none⟩ (.slice A8 n8 c8)).cell? ⟨w2.heap.size, 0, none⟩ = some (.int .i64 Z) := (two_cells m2 m3).1
            have c1 : ((wq.setCell ⟨w2.heap.size, 0, none⟩ (.int .i64 Z)).setCell ⟨w2.heap.size, 1, none⟩ (.slice A8 n8 c8)).cell? ⟨w2.heap.size, 1, none⟩ = some (.slice A8 n8 c8) := (two_cells m2 m3).2
            have c2 : ∀ o, ((wq.setCell ⟨w2.heap.size, 0, none⟩ (.int .i64 Z)).setCell ⟨w2.heap.size, 1, none⟩ (.slice A8 n8 c8)).frozen? ⟨w2.heap.size, o, none⟩ = false := fun o => by
              rw [World.frozen?_setCell, World.frozen?_setCell]; exact m4 o
            have hD2 : Btw 0 16777216 (D ++ [x]) := by
              intro y hy
              rcases List.mem_append.1 hy with h | h
              · exact HD.out y h
              · have : y = x := by simpa using h
                subst this; exact HV.out
            have hd2 : (D ++ [x]).length ≤ k + 1 := by simp; omega
            have sz : w2.heap.size < ((wq.setCell ⟨w2.heap.size, 0, none⟩ (.int .i64 Z)).setCell ⟨w2.heap.size, 1, none⟩ (.slice A8 n8 c8)).heap.size := by
              have := grq.size; simp at this; simp; omega
            have HR := Lib.hid (⟨hd2, hD2, q5, q6, f6, c0, c1, c2, q7, sz⟩ : _ ∧ _ ∧ _ ∧ _ ∧ _ ∧ _ ∧ _ ∧ _ ∧ _ ∧ _)
            clear hd2 hD2 q5 q6 f6 c0 c1 c2 q7 sz p6 ownq ownq2 grq atq hat M0 M1 M2 M3 M4 m0 m1 m2 m3 m4 hnb ne2 ne3
            go_wp2_with fail
            go_roundw
            case rel => first | exact ⟨k + 1, D ++ [x], A8, n8, c8, by omega, by go_num, HR.out⟩ | ((repeat apply Exists.intro); exact ⟨⟨k + 1, D ++ [x], A8, n8, c8, by omega, by go_num, HR.out⟩, rfl⟩)
            case measure => simp [intOf]; omega
        · have HV := Lib.hid hv
          have HD := Lib.hid hD
          have OV := Lib.hid ov
          have O7 := Lib.hid o7
          have FR := Lib.hid fr
          have hcs : x < 0 ∨ (0 ≤ x ∧ 16777216 < x) := by omega
          clear hv hD ov o7 fr
          rcases hcs with hcs | ⟨hcs, hcs2⟩
          all_goals
            go_wp2_with fail
            refine (HP3.out D x _ A7 n7 c7 R7.out.1 hn7 HD.out HV.out).mono ?_
            rintro e w3 ⟨rfl, hb3⟩
            have z3 := hb3.size
            have K03 := (hb3.cell (p := ⟨w2.heap.size, 0, none⟩) hsz).trans K0
            have K13 := (hb3.cell (p := ⟨w2.heap.size, 1, none⟩) hsz).trans K1
            have K23 := fun o => (hb3.frozen (p := ⟨w2.heap.size, o, none⟩) hsz).trans (K2 o)
            have bel3 : Below w2.heap.size w2 w3 := bel.trans (hb3.mono (by omega))
            have H2 : ∀ T, (w3.alloc (.cells #[.int .i64 0, .slice none 0 0] T)).cell? ⟨w2.heap.size, 0, none⟩ = some (.int .i64 Z) := by intro T; simp [qa, ↓IntWalk.iteOmega, *]
            have H3 : ∀ T, (w3.alloc (.cells #[.int .i64 0, .slice none 0 0] T)).cell? ⟨w2.heap.size, 1, none⟩ = some (.slice A7 n7 c7) := by intro T; simp [qa, ↓IntWalk.iteOmega, *]
            have H4 : ∀ T o, (w3.alloc (.cells #[.int .i64 0, .slice none 0 0] T)).frozen? ⟨w2.heap.size, o, none⟩ = false := by intro T o; simp [qf, ↓IntWalk.iteOmega, *]
            have H7 : ∀ T, Below w2.heap.size w2 (w3.alloc (.cells #[.int .i64 0, .slice none 0 0] T)) := fun T => bel3.alloc (by omega) _
            have H8 : ∀ T, w2.heap.size < (w3.alloc (.cells #[.int .i64 0, .slice none 0 0] T)).heap.size := fun T => by simp; omega
            have HH := Lib.hid (⟨H2, H3, H4, H7, H8⟩ : _ ∧ _ ∧ _ ∧ _ ∧ _)
            have O5 := Lib.hid (own_below OV.out hb3)
            have O6 := Lib.hid (own_below O7.out hb3)
            clear H2 H3 H4 H7 H8
            go_wp2_with fail
            go_roundw
            case rel => first | exact ⟨k + 1, D, A7, n7, c7, by omega, by go_num, by omega, HD.out, O5.out.alloc _, O6.out.alloc _, FR.out, HH.out.1 _, HH.out.2.1 _, HH.out.2.2.1 _, HH.out.2.2.2.1 _, HH.out.2.2.2.2 _⟩ | ((repeat apply Exists.intro); exact ⟨⟨k + 1, D, A7, n7, c7, by omega, by go_num, by omega, HD.out, O5.out.alloc _, O6.out.alloc _, FR.out, HH.out.1 _, HH.out.2.1 _, HH.out.2.2.1 _, HH.out.2.2.2.1 _, HH.out.2.2.2.2 _⟩, rfl⟩)
            case measure => simp [intOf]; omega
      · obtain rfl : MM = k := by omega
        have hn7 : (n7 : Int) ≤ Z := by have h1 := o7.1; have h2 := lastN_len (z := Z) D; simp at h1; omega
        have hb7 := lastN_btw (z := Z) hD
        have rw7 := Row.of_own o7
        have HC := Lib.hid (fun w' (h : Row w' A7 n7 (lastN Z D)) => wcheck_ok Z A7 n7 c7 (lastN Z D) w' h zb hn7 hb7)
        obtain ⟨m, hm⟩ : ∃ m, D.length = m := ⟨_, rfl⟩
        have hK : ∃ (K : Nat) (KI : Int), (K : Int) = KI ∧ 0 ≤ KI ∧ K ≤ m ∧ KI ≤ (m : Int) ∧ (0 < m → K < m) ∧ max 0 ((m : Int) - Z) = KI ∧ lastN Z D = D.drop K := by
          by_cases c : (m : Int) ≤ Z
          · exact ⟨0, 0, rfl, by omega, by omega, by omega, by omega, by omega, by unfold lastN; rw [show D.length - Z.toNat = 0 by omega]⟩
          · exact ⟨m - Z.toNat, (m : Int) - Z, by omega, by omega, by omega, by omega, by omega, by omega, by unfold lastN; rw [hm]⟩
        obtain ⟨K, KI, k1, k2, k3, k4, k5, k6, k7⟩ := hK
        have kw : IntKind.i64.wrap ((m : Int) - Z) = (m : Int) - Z := IntWalk.i64_in _ (by omega)
        have hn0 : n7 ≤ 1000000 := by omega
        have R7 := Lib.hid rw7
        have hE : ∀ (A : Option Addr) (c' : Nat) w', Row w' A7 n7 (lastN Z D) → Row w' A (m - K) (D.drop K) → _ := fun A c' w' h h' => equal_ok A7 A n7 c7 (m - K) c' (lastN Z D) w' h (k7 ▸ h') hn0
        have HE := Lib.hid hE
        have HK := Lib.hid k1
        have hkn : KI.toNat = K := by omega
        have rv : ∀ A c, u8 = .slice A m c → Row wr A m D := fun A c e => Row.of_own (c := c) (by rw [← e]; rw [hm] at ov; exact ov)
        have form := ov.2
        rw [hm] at form
        have m200 : m ≤ 200 := by omega
        clear hE k1 k7 hb7 rw7 o7 ov hD fr hm hd hn7
        rcases form with ⟨rfl, rfl⟩ | ⟨g, cv, cur, rfl, hg1, -, hg2, hg3, -⟩
        · obtain rfl : K = 0 := by omega
          obtain rfl : KI = 0 := by omega
          have hr := rv _ _ rfl
          have HR := Lib.hid (show Row wr none (0 - 0) (D.drop 0) from hr)
          have kw0 : IntKind.i64.wrap (-Z) = -Z := IntWalk.i64_in _ (by omega)
          have k60 : max 0 (-Z) = 0 := by omega
          clear rv hr k5 kw k6
          go_wp2_with fail
          refine wp_region_quiet_all (Ext _) (by kernel_rfl) (by kernel_rfl) (Ext.drawn _) ?_
          repeat (first | go_big_quiet_skip | go_big_quiet_step (fail) | (refine BigFrame.wpQuiet_want rfl (fun K hK => ?_); apply Exists.intro; refine ⟨fun w2 h2 => ?_, ?_⟩; (next => (have g1 := Below.cells h2.below; have g2 := Below.frozens h2.below; (try simp only [World.size_alloc, World.size_setCell] at g1 g2); first | (go_simp; (first | (go_at_call 30; refine h2.calls (HC.out _ (R7.out.below h2.below))) | (go_at_call 29; go_loud (refine h2.calls (HE.out _ _ _ (R7.out.below h2.below) (HR.out.below h2.below)))))) | (simp [go_sem, ↓IntWalk.iteOmega, *]; done) | (simp [go_sem, ↓IntWalk.iteOmega, *]; rfl)))); (go_simp; refine hK _ ?_; clear hK K))
          refine wpQuiet_nil ?_
          intro w5 h5
          have hb5 := h5.below
          clear h5
          have z5 := hb5.size
          have c5 := Below.cells hb5
          have f5 := Below.frozens hb5
          try simp only [World.size_alloc, World.size_setCell, World.size_drew] at z5 c5 f5
          go_wp2_with fail
          go_ret
          exact ⟨rfl, (HB0.out.trans (bel.mono HB0.out.size)).trans (hb5.mono (Nat.le_trans HB0.out.size bel.size))⟩
        · rcases Nat.eq_zero_or_pos m with h0 | h0
          · subst h0
            obtain rfl : K = 0 := by omega
            obtain rfl : KI = 0 := by omega
            have hr := rv _ _ rfl
            have HR := Lib.hid (show Row wr (some ⟨g, 0, none⟩) (0 - 0) (D.drop 0) from hr)
            have kw0 : IntKind.i64.wrap (-Z) = -Z := IntWalk.i64_in _ (by omega)
            have k60 : max 0 (-Z) = 0 := by omega
            clear rv hr k5 kw k6
            go_wp2_with fail
            refine wp_region_quiet_all (Ext _) (by kernel_rfl) (by kernel_rfl) (Ext.drawn _) ?_
            repeat (first | go_big_quiet_skip | go_big_quiet_step (fail) | (refine BigFrame.wpQuiet_want rfl (fun K hK => ?_); apply Exists.intro; refine ⟨fun w2 h2 => ?_, ?_⟩; (next => (have g1 := Below.cells h2.below; have g2 := Below.frozens h2.below; (try simp only [World.size_alloc, World.size_setCell] at g1 g2); first | (go_simp; (first | (go_at_call 30; refine h2.calls (HC.out _ (R7.out.below h2.below))) | (go_at_call 29; go_loud (refine h2.calls (HE.out _ _ _ (R7.out.below h2.below) (HR.out.below h2.below)))))) | (simp [go_sem, ↓IntWalk.iteOmega, *]; done) | (simp [go_sem, ↓IntWalk.iteOmega, *]; rfl)))); (go_simp; refine hK _ ?_; clear hK K))
            refine wpQuiet_nil ?_
            intro w5 h5
            have hb5 := h5.below
            clear h5
            have z5 := hb5.size
            have c5 := Below.cells hb5
            have f5 := Below.frozens hb5
            try simp only [World.size_alloc, World.size_setCell, World.size_drew] at z5 c5 f5
            go_wp2_with fail
            go_ret
            exact ⟨rfl, (HB0.out.trans (bel.mono HB0.out.size)).trans (hb5.mono (Nat.le_trans HB0.out.size bel.size))⟩
          · have hr := row_drop (rv _ _ rfl) k3
            rw [Nat.zero_add] at hr
            have HR := Lib.hid hr
            clear rv hr
            have k8 := k5 h0
            have hne : ¬ cv = K := by omega
            clear k5
            go_wp2_with fail
            refine wp_region_quiet_all (Ext _) (by kernel_rfl) (by kernel_rfl) (Ext.drawn _) ?_
            repeat (first | go_big_quiet_skip | go_big_quiet_step (fail) | (refine BigFrame.wpQuiet_want rfl (fun K hK => ?_); apply Exists.intro; refine ⟨fun w2 h2 => ?_, ?_⟩; (next => (have g1 := Below.cells h2.below; have g2 := Below.frozens h2.below; (try simp only [World.size_alloc, World.size_setCell] at g1 g2); first | (go_simp; (first | (go_at_call 30; refine h2.calls (HC.out _ (R7.out.below h2.below))) | (go_at_call 29; go_loud (refine h2.calls (HE.out _ _ _ (R7.out.below h2.below) (HR.out.below h2.below)))))) | (simp [go_sem, ↓IntWalk.iteOmega, *]; done) | (simp [go_sem, ↓IntWalk.iteOmega, *]; rfl)))); (go_simp; refine hK _ ?_; clear hK K))
            refine wpQuiet_nil ?_
            intro w5 h5
            have hb5 := h5.below
            clear h5
            have z5 := hb5.size
            have c5 := Below.cells hb5
            have f5 := Below.frozens hb5
            try simp only [World.size_alloc, World.size_setCell, World.size_drew] at z5 c5 f5
            go_wp2_with fail
            go_ret
            exact ⟨rfl, (HB0.out.trans (bel.mono HB0.out.size)).trans (hb5.mono (Nat.le_trans HB0.out.size bel.size))⟩
end Go.Proofs.Ytamncanlbopehaa
