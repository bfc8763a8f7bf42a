/-
  package node: a node's block; Check, New, Now, Seq, told of none, Tick of one who watches none.
-/
import Derived.Test.YtpomdnglknbanaaGreatBe
import Derived.Test.YtpomdnglknbanaaGreatGr
import Derived.Test.YtpomdnglknbanaaGreatEn
import Derived.Test.YtpomdnglknbanaaGreatSl
import Derived.Test.YtpomdnglknbanaaGreatQT
import Derived.Test.YtpomdnglknbanaaGreatAp
import Derived.Test.YtpomdnglknbanaaGreatPu
set_option linter.unusedSimpArgs false
set_option linter.unusedVariables false
namespace Go.Proofs.YtpomdnglknbanaaGreat
open Go Go.RowKit
/-- A node lies at block b. -/
def NodeAt (w : World) (b : Nat) (id : ByteArray) (inc every cap least now seq drops : Int) (P S : Value) : Prop :=
  w.heap[b]? = some (.cells #[.string id, .int .i64 inc, .int .i64 every, .int .i64 cap, .int .i64 least, .int .i64 now, .int .i64 seq, .int .i64 drops, P, S] 95 (0, 0))
section
variable {w w' : World} {b : Nat} {id : ByteArray} {inc every cap least now seq drops : Int} {P S : Value}
theorem NodeAt.cells (h : NodeAt w b id inc every cap least now seq drops P S) : w.cell? ⟨b, 0, none⟩ = some (.string id) ∧ w.cell? ⟨b, 1, none⟩ = some (.int .i64 inc) ∧ w.cell? ⟨b, 2, none⟩ = some (.int .i64 every) ∧ w.cell? ⟨b, 3, none⟩ = some (.int .i64 cap) ∧ w.cell? ⟨b, 4, none⟩ = some (.int .i64 least) ∧
    w.cell? ⟨b, 5, none⟩ = some (.int .i64 now) ∧ w.cell? ⟨b, 6, none⟩ = some (.int .i64 seq) ∧ w.cell? ⟨b, 7, none⟩ = some (.int .i64 drops) ∧ w.cell? ⟨b, 8, none⟩ = some P ∧ w.cell? ⟨b, 9, none⟩ = some S := by
  unfold NodeAt at h
  refine ⟨?_, ?_, ?_, ?_, ?_, ?_, ?_, ?_, ?_, ?_⟩ <;> (rw [cell_of_row _ _ _ _ _ _ h]; rfl)
theorem NodeAt.frozen (h : NodeAt w b id inc every cap least now seq drops P S) (o : Nat) : w.frozen? ⟨b, o, none⟩ = false := by unfold NodeAt at h; simp [World.frozen?, h]
theorem NodeAt.same (h : NodeAt w b id inc every cap least now seq drops P S) (e : w'.heap[b]? = w.heap[b]?) : NodeAt w' b id inc every cap least now seq drops P S := e.trans h
theorem NodeAt.below {B : Nat} (h : NodeAt w b id inc every cap least now seq drops P S) (e : Below B w w') (hb : b < B) : NodeAt w' b id inc every cap least now seq drops P S := (e.block b hb).trans h
theorem NodeAt.lt (h : NodeAt w b id inc every cap least now seq drops P S) : b < w.heap.size := (Array.getElem?_eq_some_iff.1 h).1
theorem NodeAt.setNow (h : NodeAt w b id inc every cap least now seq drops P S) (x : Int) : NodeAt (w.setCell ⟨b, 5, none⟩ (.int .i64 x)) b id inc every cap least x seq drops P S := by
  unfold NodeAt at *; simp [World.setCell, Array.getElem?_modify, h]
theorem NodeAt.setSeq (h : NodeAt w b id inc every cap least now seq drops P S) (x : Int) : NodeAt (w.setCell ⟨b, 6, none⟩ (.int .i64 x)) b id inc every cap least now x drops P S := by
  unfold NodeAt at *; simp [World.setCell, Array.getElem?_modify, h]
theorem NodeAt.setDrops (h : NodeAt w b id inc every cap least now seq drops P S) (x : Int) : NodeAt (w.setCell ⟨b, 7, none⟩ (.int .i64 x)) b id inc every cap least now seq x P S := by
  unfold NodeAt at *; simp [World.setCell, Array.getElem?_modify, h]
theorem NodeAt.setPeers (h : NodeAt w b id inc every cap least now seq drops P S) (x : Value) : NodeAt (w.setCell ⟨b, 8, none⟩ x) b id inc every cap least now seq drops x S := by
  unfold NodeAt at *; simp [World.setCell, Array.getElem?_modify, h]
theorem NodeAt.setSubs (h : NodeAt w b id inc every cap least now seq drops P S) (x : Value) : NodeAt (w.setCell ⟨b, 9, none⟩ x) b id inc every cap least now seq drops P x := by
  unfold NodeAt at *; simp [World.setCell, Array.getElem?_modify, h]
end
set_option maxRecDepth 100000 in
set_option maxHeartbeats 4000000 in
theorem ncheck_ok (id : ByteArray) (inc every cap least : Int) (w : World) (hid : IdOK (byts id)) (hi : 0 ≤ inc ∧ inc < 2147483648) (he : 1 ≤ every ∧ every ≤ 16777216) (hc : 1 ≤ cap ∧ cap ≤ 64) (hl : 1 ≤ least ∧ least ≤ 16777216) :
    Calls Tryz.prog 53 #[.agg #[.string id, .int .i64 inc, .int .i64 every, .int .i64 cap, .int .i64 least]] w fun e w' => e = .returned (.int .i64 0) ∧ Below w.heap.size w w' := by
  have HI := Lib.hid (fun w' => id_ok id w' hid)
  clear hid
  obtain ⟨i1, i2⟩ := hi
  obtain ⟨e1, e2⟩ := he
  obtain ⟨c1, c2⟩ := hc
  obtain ⟨l1, l2⟩ := hl
  have qa := alloc_cells
  have qf := alloc_frozens
  go_enter Tryz.func53, Tryz.ntmps53
  go_wp2_with fail
  refine (HI.out _).mono ?_
  rintro e w' ⟨rfl, rfl⟩
  go_wp2_with fail
  refine (val_ok every (by omega) (by omega) _).mono ?_
  rintro e w' ⟨rfl, rfl⟩
  go_wp2_with fail
  refine (val_ok least (by omega) (by omega) _).mono ?_
  rintro e w' ⟨rfl, rfl⟩
  go_wp2_with fail
  go_ret
  exact ⟨rfl, (Below.refl _ _).alloc (Nat.le_refl _) _⟩
set_option maxRecDepth 100000 in
set_option maxHeartbeats 4000000 in
theorem new_ok (id : ByteArray) (inc every cap least : Int) (w : World) (hid : IdOK (byts id)) (hi : 0 ≤ inc ∧ inc < 2147483648) (he : 1 ≤ every ∧ every ≤ 16777216) (hc : 1 ≤ cap ∧ cap ≤ 64) (hl : 1 ≤ least ∧ least ≤ 16777216) :
    Calls Tryz.prog 30 #[.agg #[.string id, .int .i64 inc, .int .i64 every, .int .i64 cap, .int .i64 least]] w fun e w' => ∃ b, e = .returned (.tuple #[.pointer (some ⟨b, 0, none⟩), .int .i64 0]) ∧ w.heap.size ≤ b ∧ NodeAt w' b id inc every cap least 0 0 0 (.slice none 0 0) (.slice none 0 0) ∧ Below w.heap.size w w' := by
  have HC := Lib.hid (fun w' => ncheck_ok id inc every cap least w' hid hi he hc hl)
  clear hid hi he hc hl
  have qa := alloc_cells
  have qf := alloc_frozens
  go_enter Tryz.func30, Tryz.ntmps30
  go_wp2_with fail
  refine (HC.out _).mono ?_
  rintro e w1 ⟨rfl, hb1⟩
  have z1 := hb1.size
  have c1 := Below.cells hb1
  have f1 := Below.frozens hb1
  try simp only [World.size_alloc, World.size_setCell, World.size_drew] at z1 c1 f1
  go_wp2_with fail
  have NB := Lib.hid (heap_alloc_last w1 (.cells #[.string id, .int .i64 inc, .int .i64 every, .int .i64 cap, .int .i64 least, .int .i64 0, .int .i64 0, .int .i64 0, .slice none 0 0, .slice none 0 0] 95))
  refine bodyPost_ret (v := .tuple #[.pointer (some ⟨w1.heap.size, 0, none⟩), .int .i64 0]) (by simp [results, Tryz.f30, go_sem, ↓IntWalk.iteOmega, *]) rfl ?_
  exact ⟨w1.heap.size, rfl, by omega, NB.out, (by repeat (first | (with_reducible exact Below.refl _ _) | ((with_reducible refine Below.alloc ?_ ?_ _); rotate_left; (next => ((try dsimp only); (try simp only [World.size_alloc, World.size_setCell, World.size_drew]); omega))) | ((with_reducible refine Below.setCell ?_ ?_ _); rotate_left; (next => ((try dsimp only); (try simp only [World.size_alloc, World.size_setCell, World.size_drew]); omega))) | (with_reducible refine Below.drew ?_) | ((with_reducible refine Below.trans ?_ (Below.mono hb1 ?_)); rotate_left; (next => ((try dsimp only); (try simp only [World.size_alloc, World.size_setCell, World.size_drew]); omega)))))⟩
set_option maxHeartbeats 4000000 in
theorem now_ok {b : Nat} {id : ByteArray} {inc every cap least now seq drops : Int} {P S : Value} (w : World) (h : NodeAt w b id inc every cap least now seq drops P S) :
    Calls Tryz.prog 31 #[.pointer (some ⟨b, 0, none⟩)] w fun e w' => e = .returned (.int .i64 now) ∧ w = w' := by
  obtain ⟨_, _, _, _, _, c5, _⟩ := h.cells
  clear h
  go_enter Tryz.func31, Tryz.ntmps31
  go_wp2_with fail
  go_ret
  exact ⟨rfl, rfl⟩
set_option maxHeartbeats 4000000 in
theorem seq_ok {b : Nat} {id : ByteArray} {inc every cap least now seq drops : Int} {P S : Value} (w : World) (h : NodeAt w b id inc every cap least now seq drops P S) :
    Calls Tryz.prog 32 #[.pointer (some ⟨b, 0, none⟩)] w fun e w' => e = .returned (.int .i64 seq) ∧ w = w' := by
  obtain ⟨_, _, _, _, _, _, c6, _⟩ := h.cells
  clear h
  go_enter Tryz.func32, Tryz.ntmps32
  go_wp2_with fail
  go_ret
  exact ⟨rfl, rfl⟩
set_option maxHeartbeats 4000000 in
theorem told_none {b : Nat} {id : ByteArray} {inc every cap least now seq drops : Int} {P : Value} (w : World) (h : NodeAt w b id inc every cap least now seq drops P (.slice none 0 0)) :
    Calls Tryz.prog 43 #[.pointer (some ⟨b, 0, none⟩)] w fun e w' => e = .returned (.slice none 0 0) ∧ w = w' := by
  obtain ⟨_, _, _, _, _, _, _, _, _, c9⟩ := h.cells
  clear h
  go_enter Tryz.func43, Tryz.ntmps43
  go_wp2_with fail
  refine wp_loop_rounds 1 ?_
  iterate 1 (rw [rounds_succ]; go_wp2_with fail)
  go_ret
  exact ⟨rfl, rfl⟩
theorem info_str : (Tryz.prog.info? 9).map (fun i => (i.zero, i.size, i.bytes)) = some (some (.string ⟨#[]⟩), 1, 16) := by kernel_rfl
theorem one_str (y : ByteArray) : ∀ u ∈ [Value.string y], u.oneCell' = true := by intro u hu; simp at hu; subst hu; rfl
/-- The beats that are sent. -/
def sent (id : ByteArray) (inc seq m : Nat) : List Value := (List.range m).map fun j => Value.string (mkB (encL (byts id) inc (seq + 1 + j)))
theorem sent_snoc (id : ByteArray) (inc seq m : Nat) : sent id inc seq (m + 1) = sent id inc seq m ++ [Value.string (mkB (encL (byts id) inc (seq + m + 1)))] := by
  unfold sent; rw [List.range_succ, List.map_append]; simp [Nat.add_right_comm]
set_option maxRecDepth 100000 in
set_option maxHeartbeats 8000000 in
/-- A tick of one who has no subs. -/
theorem tick_none {b inc seq m : Nat} {id : ByteArray} {every cap least now drops g D : Int} {P : Value} (w : World) (h : NodeAt w b id inc every cap least now seq drops P (.slice none 0 0)) (hid : IdOK (byts id)) (hinc : inc < 2147483648)
    (hg : 1 ≤ g ∧ g ≤ 1073741824) (hn : 0 ≤ now) (hng : now + g ≤ 1073741824) (he : 1 ≤ every ∧ every ≤ 16777216) (hge : g / every < 64) (hD : now / every = D) (hm : (now + g) / every = D + m) (hs : seq + m < 2147483648) :
    Calls Tryz.prog 20 #[.pointer (some ⟨b, 0, none⟩), .int .i64 g] w fun e w' => ∃ v, e = .returned (.tuple #[v, .slice none 0 0, .int .i64 0]) ∧ w'.ownsRow w.heap.size 9 1 v m (sent id inc seq m) ∧ NodeAt w' b id inc every cap least (now + g) ((seq + m : Nat) : Int) drops P (.slice none 0 0) ∧ w.grownBy w' (some b) := by
  obtain ⟨g1, g2⟩ := hg
  obtain ⟨e1, e2⟩ := he
  have D0 : 0 ≤ D := by rw [← hD]; exact Int.ediv_nonneg hn (by omega)
  have Dn : D ≤ now := by rw [← hD]; exact Int.ediv_le_self _ hn
  have Mb : D + m ≤ now + g := by rw [← hm]; exact Int.ediv_le_self _ (by omega)
  have ge0 : 0 ≤ g / every := Int.ediv_nonneg (by omega) (by omega)
  have hm64 : (m : Int) ≤ 64 := by
    have a := Int.emod_add_mul_ediv (now + g) every
    have b := Int.emod_add_mul_ediv now every
    have c := Int.emod_add_mul_ediv g every
    have a1 := Int.emod_nonneg (now + g) (show every ≠ 0 by omega)
    have b2 := Int.emod_lt_of_pos now (show 0 < every by omega)
    have c2 := Int.emod_lt_of_pos g (show 0 < every by omega)
    rw [hm] at a
    rw [hD] at b
    have k1 : every * (D + m) ≤ every * (D + (g / every + 1)) + (every - 1) - 1 := by
      rw [Int.mul_add] at a ⊢
      rw [Int.mul_add, Int.mul_add, Int.mul_one]
      omega
    rcases Int.lt_or_le (g / every + 1) m with q | q
    · have := Int.mul_le_mul_of_nonneg_left (show D + (g / every + 1 + 1) ≤ D + m by omega) (show 0 ≤ every by omega)
      rw [Int.mul_add every D (g / every + 1 + 1), Int.mul_add every (g / every + 1) 1, Int.mul_one] at this
      rw [Int.mul_add every D (g / every + 1)] at k1
      omega
    · omega
  have hcond : ∀ k : Nat, (D + 1 + k) * every ≤ now + g ↔ k < m := fun k => by
    rw [← Int.le_ediv_iff_mul_le (show 0 < every by omega), hm]; omega
  have hbd : ∀ k : Nat, k ≤ m → 0 ≤ (D + 1 + k) * every ∧ (D + 1 + k) * every ≤ 1073741824 + 16777216 := fun k hk => by
    refine ⟨Int.mul_nonneg (by omega) (by omega), ?_⟩
    have a := Int.ediv_mul_le (now + g) (show every ≠ 0 by omega)
    rw [hm] at a
    have b := Int.mul_le_mul_of_nonneg_right (show D + 1 + k ≤ D + m + 1 by omega) (show 0 ≤ every by omega)
    rw [Int.add_mul (D + m) 1 every, Int.one_mul] at b
    omega
  have hnx : ∀ k : Nat, (D + 1 + k) * every + every = (D + 1 + (k + 1 : Nat)) * every := fun k => by
    rw [show D + 1 + ((k + 1 : Nat) : Int) = D + 1 + k + 1 by omega, Int.add_mul _ 1 every, Int.one_mul]
  have HE := Lib.hid (fun q (hq : q < m) w' => encode_ok id inc (seq + q + 1) w' ⟨hid, hinc, by omega, by omega⟩)
  have HCo := Lib.hid hcond
  have HBd := Lib.hid hbd
  have HNx := Lib.hid hnx
  have HN := Lib.hid h
  have v1 : IntKind.i64.wrap (now + g) = now + g := IntWalk.i64_in _ (by omega)
  have v2 : g.tdiv every = g / every := Int.tdiv_eq_ediv_of_nonneg (by omega)
  have v3 : IntKind.i64.wrap (g / every) = g / every := IntWalk.i64_in _ (by omega)
  have v4 : now.tdiv every = now / every := Int.tdiv_eq_ediv_of_nonneg hn
  have v5 : now / every = D := hD
  have v6 : IntKind.i64.wrap D = D := IntWalk.i64_in _ (by omega)
  have v7 : IntKind.i64.wrap (D + 1) = D + 1 := IntWalk.i64_in _ (by omega)
  obtain ⟨a0, ha0⟩ : ∃ a, (D + 1) * every = a := ⟨_, rfl⟩
  have b0 := hbd 0 (by omega)
  rw [show D + 1 + ((0 : Nat) : Int) = D + 1 by omega, ha0] at b0
  have v8 : IntKind.i64.wrap ((D + 1) * every) = a0 := by rw [ha0]; exact IntWalk.i64_in _ (by omega)
  have ne : (every == 0) = false := by simp; omega
  have ne' : ¬ every = 0 := by omega
  have HA0 := Lib.hid ha0
  have n1 : ¬ g < 1 := by omega
  have n2 : ¬ 1073741824 < g := by omega
  have n3 : ¬ 1073741824 < now + g := by omega
  have n4 : ¬ 64 ≤ g / every := by omega
  obtain ⟨k0, k1, k2, k3, k4, k5, k6, k7, k8, k9⟩ := h.cells
  have hfz := h.frozen
  have hlt := h.lt
  clear h hid hcond hbd hnx hD hm ha0 ge0
  obtain ⟨i0, hi, hz0, hz1, hz2⟩ := info_parts info_str
  go_enter Tryz.func20, Tryz.ntmps20
  go_wp2_with fail
  refine wp_region_quiet_all (Ext _) (by kernel_rfl) (by kernel_rfl) (Ext.drawn _) ?_
  repeat (first | go_big_quiet_skip | go_big_quiet_step (fail) | (refine BigFrame.wpQuiet_want rfl (fun K hK => ?_); apply Exists.intro; refine ⟨fun w2 h2 => ?_, ?_⟩; (next => (have g1 := Below.cells h2.below; have g2 := Below.frozens h2.below; (try simp only [World.size_alloc, World.size_setCell] at g1 g2); first | (go_simp; fail) | (simp [go_sem, ↓IntWalk.iteOmega, *]; done) | (simp [go_sem, ↓IntWalk.iteOmega, *]; rfl)))); (go_simp; refine hK _ ?_; clear hK K))
  refine wpQuiet_nil ?_
  intro w1 h1
  have hb1 := h1.below
  clear h1
  have z1 := hb1.size
  have c1 := Below.cells hb1
  have f1 := Below.frozens hb1
  try simp only [World.size_alloc, World.size_setCell, World.size_drew] at z1 c1 f1
  go_wp2_with fail
  have ND1 := Lib.hid (HN.out.below hb1 hlt)
  have G1 := Lib.hid (grown_below (row := some b) hb1)
  clear hb1 c1 f1 k0 k1 k2 k3 k4 k5 k6 k7 k8 k9 hfz v2 v3 v4 v5 v6 v7 v8
  go_loopw [7, 8] (fun v a wr => ∃ (k : Nat) (at_ : Int) (A7 : Option Addr) (c7 : Nat), k ≤ m ∧ at_ = (D + 1 + k) * every ∧ a = .int .i64 at_ ∧ v = .slice A7 k c7 ∧ wr.ownsRow w.heap.size 9 1 (.slice A7 k c7) k (sent id inc seq k) ∧ NodeAt wr b id inc every cap least now ((seq + k : Nat) : Int) drops P (.slice none 0 0) ∧ w.grownBy wr (some b)) (fun v _ _ => m - (match v with | .slice _ n _ => n | _ => 0))
  case atStart => exact ⟨0, a0, none, 0, Nat.zero_le _, by rw [← HA0.out]; simp, rfl, rfl, World.ownsRow_nil _ _ _ _, ND1.out, G1.out⟩
  case round =>
    obtain ⟨k, at_, A7, c7, hk, hat, rfl, rfl, hown, hnd, hgr⟩ := hrel
    have hsz := hgr.size
    by_cases hlk : k < m
    · have hc : at_ ≤ now + g := by rw [hat]; exact (HCo.out k).2 hlk
      have hb0 := HBd.out k hk
      have hb1 := HBd.out (k + 1) (by omega)
      have hnx := HNx.out k
      rw [← hat] at hb0 hnx
      rw [← hnx] at hb1
      have HAt := Lib.hid hnx
      obtain ⟨sq, hsq⟩ : ∃ s, seq + k = s := ⟨_, rfl⟩
      obtain ⟨s1, hs1⟩ : ∃ s, sq + 1 = s := ⟨_, rfl⟩
      rw [hsq] at hnd
      have q1 : IntKind.i64.wrap ((sq : Int) + 1) = (s1 : Int) := by rw [IntWalk.i64_in _ (by omega)]; omega
      have q2 : IntKind.i64.wrap (at_ + every) = at_ + every := IntWalk.i64_in _ (by omega)
      obtain ⟨tx, htx⟩ : ∃ t, mkB (encL (byts id) inc s1) = t := ⟨_, rfl⟩
      have HEk := Lib.hid (fun w' => HE.out k hlk w')
      rw [show seq + k + 1 = s1 by omega, htx] at HEk
      have HSn := Lib.hid (sent_snoc id inc seq k)
      rw [show seq + k + 1 = s1 by omega, htx] at HSn
      obtain ⟨r0, r1, r2, r3, r4, r5, r6, r7, r8, r9⟩ := hnd.cells
      have rf := hnd.frozen
      have N2 := Lib.hid (hnd.setSeq (s1 : Int))
      have G2 := Lib.hid (grown_trans hgr (grown_set wr b 6 (.int .i64 (s1 : Int))))
      have O2 := Lib.hid (own_set hown (b := b) hlt 6 (.int .i64 (s1 : Int)))
      have bsz := hnd.lt
      have hs12 : (s1 : Int) = ((seq + (k + 1) : Nat) : Int) := by omega
      have HS12 := Lib.hid hs12
      clear hat hnx htx hs1 hsq hown hnd hgr hs12
      go_wp2_with fail
      obtain ⟨w2, hw2⟩ : ∃ z, wr.setCell ⟨b, 6, none⟩ (.int .i64 (s1 : Int)) = z := ⟨_, rfl⟩
      rw [hw2] at N2 G2 O2 ⊢
      have zz2 : wr.heap.size = w2.heap.size := by rw [← hw2]; simp
      clear hw2 r0 r1 r2 r3 r4 r5 r6 r7 r8 r9 rf
      have bsz2 : b < w2.heap.size := by omega
      have wsz2 : w.heap.size ≤ w2.heap.size := by omega
      clear zz2 hsz
      obtain ⟨r0, r1, r2, r3, r4, r5, r6, r7, r8, r9⟩ := N2.out.cells
      have rf := N2.out.frozen
      refine wp_region_quiet_all (Ext _) (by kernel_rfl) (by kernel_rfl) (Ext.drawn _) ?_
      repeat (first | go_big_quiet_skip | go_big_quiet_step (fail) | (refine BigFrame.wpQuiet_want rfl (fun K hK => ?_); apply Exists.intro; refine ⟨fun w2 h2 => ?_, ?_⟩; (next => (have g1 := Below.cells h2.below; have g2 := Below.frozens h2.below; (try simp only [World.size_alloc, World.size_setCell] at g1 g2); first | (go_simp; (go_at_call 25; refine h2.calls (HEk.out _))) | (simp [go_sem, ↓IntWalk.iteOmega, *]; done) | (simp [go_sem, ↓IntWalk.iteOmega, *]; rfl)))); (go_simp; refine hK _ ?_; clear hK K))
      refine wpQuiet_nil ?_
      intro w3 h3
      have hb3 := h3.below
      clear h3
      have N3 := Lib.hid (N2.out.below hb3 bsz2)
      have G3 := Lib.hid (grown_trans G2.out (grown_below hb3))
      have own3 := own_below O2.out hb3
      have O3 := Lib.hid own3
      have zw3 := hb3.size
      clear hb3 r0 r1 r2 r3 r4 r5 r6 r7 r8 r9 rf
      go_wp2_with (at_builtin; go_loud (refine wpList_append_own _ rfl _ _ 56 rfl (w.heap.size) 9 i0 (.string ⟨#[]⟩) 1 16 Tryz.underlying56 hi hz0 hz1 hz2 rfl (by decide) _ _ _ rfl (World.ownsRow.alloc own3 _) ⟨w3.heap.size, 0, none⟩ 1 1 [.string tx] rfl rfl (app1_cells _ _ _) (one_str _) (by unfold maxLen; omega) (by omega) (by simp; omega) ?_))
      intro vq wq ownq grq _
      have bq : wq.heap[b]? = w3.heap[b]? := (grq.block b (by simp; omega) (fun e => by have := (O3.out.lt _ e.symm).1; omega)).trans (Below.heap_alloc _ _ _ (by omega))
      have NQ := Lib.hid (N3.out.same bq)
      have GQ := Lib.hid (show w.grownBy wq (some b) from by
        have A := grown_trans G3.out (grown_below ((Below.refl _ _).alloc (Nat.le_refl _) (.cells #[.string tx] 9)))
        exact ⟨grq.os.trans A.os, grq.tape.trans A.tape, grq.output.trans A.output, Nat.le_trans A.size grq.size, fun i hi' hr => (grq.block i (Nat.lt_of_lt_of_le hi' A.size) (fun e => by have := (O3.out.lt _ e.symm).1; omega)).trans (A.block i hi' hr)⟩)
      obtain ⟨Aq, cq, rfl, _, _, _⟩ := own_form ownq
      have OQ := Lib.hid (show wq.ownsRow w.heap.size 9 1 (.slice Aq (k + 1) cq) (k + 1) (sent id inc seq (k + 1)) by rw [HSn.out]; exact ownq)
      clear ownq grq bq own3
      obtain ⟨r0, r1, r2, r3, r4, r5, r6, r7, r8, r9⟩ := NQ.out.cells
      have rf := NQ.out.frozen
      go_wp2_with fail
      go_roundw
      case rel => exact ⟨k + 1, at_ + every, Aq, cq, by omega, HAt.out, rfl, rfl, OQ.out, by have h := NQ.out; rwa [HS12.out] at h, GQ.out⟩
      case measure => simp; omega
    · obtain rfl : m = k := by omega
      have hc : ¬ at_ ≤ now + g := by rw [hat]; exact fun h => hlk ((HCo.out m).1 h)
      obtain ⟨sq, hsq⟩ : ∃ s, seq + m = s := ⟨_, rfl⟩
      rw [hsq] at hnd
      obtain ⟨r0, r1, r2, r3, r4, r5, r6, r7, r8, r9⟩ := hnd.cells
      have rf := hnd.frozen
      have N2 := Lib.hid (hnd.setNow (now + g))
      have G2 := Lib.hid (grown_trans hgr (grown_set wr b 5 (.int .i64 (now + g))))
      have O2 := Lib.hid (own_set hown (b := b) hlt 5 (.int .i64 (now + g)))
      have HSq := Lib.hid hsq
      clear hat hsq hown hnd hgr
      go_wp2_with fail
      refine (told_none _ N2.out).mono ?_
      rintro e w' ⟨rfl, rfl⟩
      go_wp2_with fail
      refine bodyPost_ret (v := .tuple #[.slice A7 m c7, .slice none 0 0, .int .i64 0]) (by simp [results, Tryz.f20, go_sem, ↓IntWalk.iteOmega, *]) rfl ?_
      exact ⟨.slice A7 m c7, rfl, O2.out, by have h := N2.out; rwa [← HSq.out] at h, G2.out⟩
end Go.Proofs.YtpomdnglknbanaaGreat
