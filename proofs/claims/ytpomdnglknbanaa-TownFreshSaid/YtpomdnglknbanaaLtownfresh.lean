import Derived.Test.YtpomdnglknbanaaTk
import Derived.Test.YtpomdnglknbanaaLs
import Derived.Deep.DeepCutAuto
set_option linter.unusedSimpArgs false
set_option linter.unusedVariables false
namespace Go.Proofs.Ytpomdnglknbanaa
open Go Go.RowKit
/-- What a node knows of another from which it heard c times, E ticks apart. -/
structure Fr (E : Int) (c : Nat) (s : NSt) (id : ByteArray) : Prop where
  last : (prT s id).last = E * c
  seq : (prT s id).seq = c
  vals : ∀ v ∈ (prT s id).vals, v = E
theorem Fr.same {E : Int} {c : Nat} {s s' : NSt} {id : ByteArray} (h : Fr E c s id) (hp : s'.peers = s.peers) : Fr E c s' id := by
  have e : prT s' id = prT s id := by unfold prT; rw [hp]
  exact ⟨by rw [e]; exact h.last, by rw [e]; exact h.seq, by rw [e]; exact h.vals⟩
theorem Fr.hear {E : Int} {r : Nat} {s : NSt} {id : ByteArray} (h : Fr E r s id) (hE : 1 ≤ E ∧ E ≤ 50) (hh : has s.peers id = true) (hi : (prT s id).inc = 0) (hn : s.now = E * (r + 1 : Nat)) :
    newB s id (r + 1 : Nat) = true ∧ Fr E (r + 1) (hearF s id (r + 1 : Nat)).1 id := by
  have e : newB s id (r + 1 : Nat) = true := by rw [newB_iff hi, h.seq]; simp; omega
  have e2 : newer (prT s id) 0 (r + 1 : Nat) = true := e
  have ep : prT (hearF s id (r + 1 : Nat)).1 id = heardP (prT s id) 0 (r + 1 : Nat) s.now := by rw [prT_hear hh hh, if_pos rfl]
  have gap : min (s.now - (prT s id).last) 16777216 = E := by
    rw [hn, h.last]
    have : E * ((r + 1 : Nat) : Int) - E * (r : Int) = E := by rw [Int.natCast_add, Int.mul_add]; omega
    omega
  refine ⟨e, ?_, ?_, ?_⟩
  · rw [ep]; unfold heardP; rw [if_pos e2]; exact hn
  · rw [ep]; unfold heardP; rw [if_pos e2]
  · rw [ep]
    unfold heardP
    rw [if_pos e2]
    show ∀ v ∈ (if ((prT s id).vals.length : Int) = (prT s id).cap then (prT s id).vals.drop 1 else (prT s id).vals) ++ [min (s.now - (prT s id).last) 16777216], v = E
    rw [gap]
    intro v hv
    rcases List.mem_append.1 hv with hv | hv
    · split at hv
      · exact h.vals v (List.mem_of_mem_drop hv)
      · exact h.vals v hv
    · simpa using hv
theorem sum_all {E : Int} : ∀ {l : List Int}, (∀ v ∈ l, v = E) → sumI l = (l.length : Int) * E
  | [], _ => by simp [sumI]
  | a :: l, h => by
    have ih := sum_all (l := l) fun v hv => h v (List.mem_cons_of_mem _ hv)
    have ha := h a List.mem_cons_self
    show a + sumI l = ((l.length + 1 : Nat) : Int) * E
    rw [ih, ha, Int.natCast_add, Int.add_mul]
    simp
    omega
/-- Up to as many ticks as there are between two nobody is suspected. -/
theorem lev_fresh {E : Int} {s : NSt} {id : ByteArray} (ok : NOK s) (hh : has s.peers id = true) (hv : ∀ v ∈ (prT s id).vals, v = E) (hd : s.now - (prT s id).last ≤ E) : levN s id = 0 := by
  obtain ⟨h1, h2, h3⟩ := ok.at (has_lt hh)
  have hn := ok.now
  have hl := h1.last
  rw [lev_some hh]
  unfold lvP
  have hd' : s.now - (s.peers.getD (pos s.peers id) default).last ≤ E := hd
  refine lv_zero h2 (by have := h1.win.2.1; have := h1.win.2.2.1; omega) h1.win.2.2.2 ok.least (by omega) ?_
  rw [sum_all (l := (s.peers.getD (pos s.peers id) default).vals) hv]
  exact Int.mul_le_mul_of_nonneg_left hd' (by omega)
def txtT (r j : Nat) : ByteArray := mkB (encL (byts (nmT j)) 0 (r + 1))
/-- A town of two behind r rounds. -/
structure FreshT (E : Int) (r : Nat) (S : TSt) : Prop where
  two : TwoT E (E * r) S
  now : ∀ i, i < 2 → (S.nd i).now = E * r
  fr : ∀ i j, i < 2 → j < 2 → i ≠ j → Fr E r (S.nd i) (nmT j)
  way : S.way.length = 2 * r
/-- In the midst of a round, k texts brought. -/
structure MidT (E : Int) (r k : Nat) (S : TSt) : Prop where
  two : TwoT E (E * (r + 1 : Nat)) S
  now : ∀ i, i < 2 → (S.nd i).now = E * (r + 1 : Nat)
  seq : ∀ i, i < 2 → (S.nd i).seq = (r + 1 : Nat)
  old : ∀ i j, i < 2 → j < 2 → i ≠ j → k ≤ j → Fr E r (S.nd i) (nmT j)
  new : ∀ i j, i < 2 → j < 2 → i ≠ j → j < k → Fr E (r + 1) (S.nd i) (nmT j)
  way : S.way.length = 2 * r + 2
  txt : ∀ j, j < 2 → S.way.getD (2 * r + j) ⟨#[]⟩ = txtT r j
theorem freshT_start {E L : Int} (hE : 1 ≤ E ∧ E ≤ 50) (hL : 1 ≤ L ∧ L ≤ 50) : FreshT E 0 (twoS E E 4 L) := by
  have h := twoT_start hE hL
  refine ⟨by simpa using h, fun i hi => ?_, fun i j hi hj hij => ?_, rfl⟩
  · unfold twoS
    rw [stN_nd _ hi]
    simp
    rfl
  · have hk := h.tok.knows i j hi hj
    rw [show decide (i ≠ j) = true by simp [hij]] at hk
    have hm := prT_mem hk
    have hp : (prT ((twoS E E 4 L).nd i) (nmT j)) ∈ wpP (twoC E E 4 L) i 2 := by
      have := hm.1
      unfold twoS at this ⊢
      rw [stN_nd _ hi] at this ⊢
      exact this
    obtain ⟨_, h2, h3, c, _, _, _, h4⟩ := wpP_all hp
    refine ⟨by rw [h3]; simp, by rw [h2]; rfl, fun v hv => ?_⟩
    rw [h4] at hv
    have hv : v = (twoC E E 4 L c).every := by simpa using hv
    rw [hv]
    unfold twoC
    split <;> rfl
section
variable {E : Int} {r k : Nat} {S : TSt}
theorem FreshT.each (h : FreshT E r S) (hE : 1 ≤ E ∧ E ≤ 50) {j : Nat} (hj : j < 2) : txN S E j = [txtT r j] := by
  have hd : S.dead j = false := by rw [h.two.dead]
  have he := h.two.tok.every j hj
  have d0 : E * (r : Int) / E = r := Int.mul_ediv_cancel_left _ (by omega)
  have d1 : (E * (r : Int) + E) / E = (r : Int) + 1 := by
    rw [show E * (r : Int) + E = E * ((r : Int) + 1) by rw [Int.mul_add, Int.mul_one]]
    exact Int.mul_ediv_cancel_left _ (by omega)
  unfold txN
  rw [hd]
  show sentB (S.nd j).id 0 _ (mT (S.nd j) E) = _
  unfold mT
  rw [h.now j hj, he, d0, d1, h.two.tok.id j hj, show ((r : Int) + 1 - (r : Int)).toNat = 1 by omega, show ((r : Int)).toNat = r by omega]
  rfl
theorem FreshT.sum (h : FreshT E r S) (hE : 1 ≤ E ∧ E ≤ 50) : sumM S E 2 = 2 := by
  unfold sumM
  rw [show List.range 2 = [0, 1] from rfl]
  simp [h.each hE (show 0 < 2 by omega), h.each hE (show 1 < 2 by omega)]
theorem FreshT.tick (h : FreshT E r S) (hE : 1 ≤ E ∧ E ≤ 50) (hr : r ≤ 20) : MidT E r 0 (twS S E 2) := by
  have hw := h.way
  have hs := h.sum hE
  have er : E * ((r + 1 : Nat) : Int) = E * r + E := by rw [Int.natCast_add, Int.mul_add]; omega
  have bd : E * (r : Int) ≤ 50 * 20 := Int.mul_le_mul hE.2 (by omega) (by omega) (by omega)
  have wy : (twS S E 2).way = S.way ++ [txtT r 0, txtT r 1] := by
    show S.way ++ (List.range 2).flatMap (txN S E) = _
    rw [show List.range 2 = [0, 1] from rfl]
    simp [h.each hE (show 0 < 2 by omega), h.each hE (show 1 < 2 by omega)]
  have live : ∀ j, S.dead j = false := fun j => by rw [h.two.dead]
  refine ⟨by rw [er]; exact ((h.two.tick hE.1 (by omega) (by omega)).2.2 (by omega)).1, fun i hi => ?_, fun i hi => ?_, fun i j hi hj hij _ => ?_, fun i j hi hj hij hk => by omega, by rw [wy]; simp [hw], fun j hj => ?_⟩
  · rw [twS_nd hi, tk_live (live i), er, ← h.now i hi]; rfl
  · rw [twS_nd hi, tk_live (live i)]
    show ((S.nd i).now + E) / (S.nd i).every = _
    rw [h.now i hi, h.two.tok.every i hi, ← er]
    exact Int.mul_ediv_cancel_left _ (by omega)
  · rw [twS_nd hi]
    exact (h.fr i j hi hj hij).same (tk_peers i)
  · rw [wy, List.getD_eq_getElem?_getD, List.getElem?_append_right (by omega), hw]
    rcases (show j = 0 ∨ j = 1 by omega) with rfl | rfl
    · simp
    · rw [show 2 * r + 1 - 2 * r = 1 by omega]; rfl
theorem MidT.next (h : MidT E r k S) (hE : 1 ≤ E ∧ E ≤ 50) (hk : k < 2) (hr : r ≤ 20) :
    let S1 := setN S 0 (hearF (S.nd 0) (nmT k) (r + 1 : Nat)).1
    let S2 := setN S1 1 (hearF (S1.nd 1) (nmT k) (r + 1 : Nat)).1
    MidT E r (k + 1) S2 ∧ TwoT E (E * (r + 1 : Nat)) S1 ∧
    (k = 0 ∧ has (S.nd 0).peers (nmT k) = false ∧ has (S1.nd 1).peers (nmT k) = true ∧ newB (S1.nd 1) (nmT k) (r + 1 : Nat) = true ∨
     k = 1 ∧ has (S.nd 0).peers (nmT k) = true ∧ newB (S.nd 0) (nmT k) (r + 1 : Nat) = true ∧ has (S1.nd 1).peers (nmT k) = false) := by
  intro S1 S2
  have t1 : TwoT E (E * (r + 1 : Nat)) S1 := h.two.bring (u := 0) (j := k) (q := (r + 1 : Nat)) (by omega) hk (by omega) (by rw [h.seq k hk]; exact Int.le_refl _)
  have sq1 : ∀ i, (S1.nd i).seq = (S.nd i).seq := fun i => setN_seq
  have t2 : TwoT E (E * (r + 1 : Nat)) S2 := t1.bring (u := 1) (j := k) (q := (r + 1 : Nat)) (by omega) hk (by omega) (by rw [sq1, h.seq k hk]; exact Int.le_refl _)
  have sq2 : ∀ i, (S2.nd i).seq = (S.nd i).seq := fun i => setN_seq.trans (sq1 i)
  have a1 : S1.nd 0 = (hearF (S.nd 0) (nmT k) (r + 1 : Nat)).1 := setN_at _ _ _
  have a2 : S1.nd 1 = S.nd 1 := setN_ne _ _ (by omega)
  have c1 : S2.nd 0 = (hearF (S.nd 0) (nmT k) (r + 1 : Nat)).1 := (setN_ne _ _ (by omega)).trans a1
  have c2 : S2.nd 1 = (hearF (S.nd 1) (nmT k) (r + 1 : Nat)).1 := by
    have : S2.nd 1 = (hearF (S1.nd 1) (nmT k) (r + 1 : Nat)).1 := setN_at _ _ _
    rw [this, a2]
  have nw2 : ∀ i, i < 2 → (S2.nd i).now = E * (r + 1 : Nat) := fun i hi => by
    rcases (show i = 0 ∨ i = 1 by omega) with rfl | rfl
    · rw [c1, hearF_same.2.2.2.1]; exact h.now 0 hi
    · rw [c2, hearF_same.2.2.2.1]; exact h.now 1 hi
  rcases (show k = 0 ∨ k = 1 by omega) with rfl | rfl
  · have k0 : has (S.nd 0).peers (nmT 0) = false := h.two.tok.knows 0 0 (by omega) (by omega)
    have k1 : has (S.nd 1).peers (nmT 0) = true := h.two.tok.knows 1 0 (by omega) (by omega)
    obtain ⟨n1, f1⟩ := (h.old 1 0 (by omega) (by omega) (by omega) (by omega)).hear hE k1 (h.two.tok.peer 1 0 (by omega) (by omega) (by omega)).1 (h.now 1 (by omega))
    have f0 : Fr E r (S2.nd 0) (nmT 1) := (h.old 0 1 (by omega) (by omega) (by omega) (by omega)).same (by rw [c1, hearF_no k0]; rfl)
    refine ⟨⟨t2, nw2, fun i hi => by rw [sq2]; exact h.seq i hi, fun i j hi hj hij hkj => ?_, fun i j hi hj hij hkj => ?_, h.way, h.txt⟩, t1, .inl ⟨rfl, k0, by rw [a2]; exact k1, by rw [a2]; exact n1⟩⟩
    · obtain ⟨rfl, rfl⟩ : i = 0 ∧ j = 1 := by omega
      exact f0
    · obtain ⟨rfl, rfl⟩ : i = 1 ∧ j = 0 := by omega
      rw [c2]; exact f1
  · have k0 : has (S.nd 0).peers (nmT 1) = true := h.two.tok.knows 0 1 (by omega) (by omega)
    have k1 : has (S.nd 1).peers (nmT 1) = false := h.two.tok.knows 1 1 (by omega) (by omega)
    obtain ⟨n1, f1⟩ := (h.old 0 1 (by omega) (by omega) (by omega) (by omega)).hear hE k0 (h.two.tok.peer 0 1 (by omega) (by omega) (by omega)).1 (h.now 0 (by omega))
    have f0 : Fr E (r + 1) (S2.nd 1) (nmT 0) := (h.new 1 0 (by omega) (by omega) (by omega) (by omega)).same (by rw [c2, hearF_no k1]; rfl)
    refine ⟨⟨t2, nw2, fun i hi => by rw [sq2]; exact h.seq i hi, fun i j hi hj hij hkj => by omega, fun i j hi hj hij hkj => ?_, h.way, h.txt⟩, t1, .inr ⟨rfl, k0, n1, by rw [a2]; exact k1⟩⟩
    rcases (show i = 0 ∧ j = 1 ∨ i = 1 ∧ j = 0 by omega) with ⟨rfl, rfl⟩ | ⟨rfl, rfl⟩
    · rw [c1]; exact f1
    · exact f0
theorem MidT.fin (h : MidT E r 2 S) (hE : 1 ≤ E ∧ E ≤ 50) : FreshT E (r + 1) S ∧ ∀ i, i < 2 → levN (S.nd i) (nmT (1 - i)) = 0 := by
  have lv : ∀ i j, i < 2 → j < 2 → i ≠ j → levN (S.nd i) (nmT j) = 0 := fun i j hi hj hij => by
    have hk := h.two.tok.knows i j hi hj
    rw [show decide (i ≠ j) = true by simp [hij]] at hk
    have f := h.new i j hi hj hij hj
    refine lev_fresh (E := E) (h.two.tok.tn i hi).ok hk f.vals ?_
    rw [f.last, h.now i hi]
    omega
  exact ⟨⟨h.two, h.now, fun i j hi hj hij => h.new i j hi hj hij hj, by rw [h.way]; omega⟩, fun i hi => lv i (1 - i) hi (by omega) (by omega)⟩
theorem FreshT.later (h : FreshT E r S) {g : Int} (hE : 1 ≤ E ∧ E ≤ 50) (hg : 1 ≤ g ∧ g ≤ E) (hr : r ≤ 20) : S.way.length + sumM S g 2 ≤ 1000 → levN ((twS S g 2).nd 0) (nmT 1) = 0 ∧ TN ((twS S g 2).nd 0) ∧ has ((twS S g 2).nd 0).peers (nmT 1) = true := by
  intro hw
  have bd : E * (r : Int) ≤ 50 * 20 := Int.mul_le_mul hE.2 (by omega) (by omega) (by omega)
  have t := ((h.two.tick hE.1 (g := g) (by omega) (by omega)).2.2 hw).1
  have hk : has ((twS S g 2).nd 0).peers (nmT 1) = true := t.tok.knows 0 1 (by omega) (by omega)
  have f := h.fr 0 1 (by omega) (by omega) (by omega)
  have f' : Fr E r ((twS S g 2).nd 0) (nmT 1) := by
    rw [twS_nd (by omega)]
    exact f.same (tk_peers 0)
  refine ⟨lev_fresh (E := E) (t.tok.tn 0 (by omega)).ok hk f'.vals ?_, t.tok.tn 0 (by omega), hk⟩
  have hn : ((twS S g 2).nd 0).now = (S.nd 0).now + g := by
    rw [twS_nd (by omega), tk_live (by rw [h.two.dead])]; rfl
  rw [f'.last, hn, h.now 0 (by omega)]
  omega
end
set_option maxRecDepth 100000 in
set_option maxHeartbeats 16000000 in
theorem townFresh_walk (e0 r0 m0 : Int) (w : World) (_ : (Lit.int .i64 e0).wf = true) (_ : (Lit.int .i64 r0).wf = true) (_ : (Lit.int .i64 m0).wf = true) :
    Calls Try.prog 17 #[.int .i64 e0, .int .i64 r0, .int .i64 m0] w fun e w' => e = .returned (.bool true) ∧ Below w.heap.size w w' := by
  obtain ⟨E, hE⟩ : ∃ E, within e0 20 = E - 1 := ⟨within e0 20 + 1, by omega⟩
  have b1 := within_bd e0 (n := 20) (by omega)
  have EB : 1 ≤ E ∧ E ≤ 20 := by omega
  have EB5 : 1 ≤ E ∧ E ≤ 50 := by omega
  have vE : IntKind.i64.wrap (1 + (E - 1)) = E := by rw [show 1 + (E - 1) = E by omega]; exact IntWalk.i64_in _ (by omega)
  obtain ⟨R, hR⟩ : ∃ R : Nat, within r0 20 = (R : Int) - 1 := ⟨(within r0 20 + 1).toNat, by have := within_bd r0 (n := 20) (by omega); omega⟩
  have b2 := within_bd r0 (n := 20) (by omega)
  have RB : 1 ≤ R ∧ R ≤ 20 := by omega
  have vR : IntKind.i64.wrap (1 + ((R : Int) - 1)) = R := by rw [show 1 + ((R : Int) - 1) = R by omega]; exact IntWalk.i64_in _ (by omega)
  have HTwo := Lib.hid (fun w' => two_ok e0 0 E 1 w' hE (by decide))
  have HS0 := Lib.hid (freshT_start (E := E) (L := 1) (by omega) (by omega))
  have HB := Lib.hid (fun w' => tbegun2_ok w')
  obtain ⟨E', hE'⟩ : ∃ x, E - 1 = x := ⟨_, rfl⟩
  obtain ⟨R', hR'⟩ : ∃ x, (R : Int) - 1 = x := ⟨_, rfl⟩
  rw [hE'] at vE hE
  rw [hR'] at vR hR
  have HE := Lib.hid hE
  have HR := Lib.hid hR
  clear hE hE' b1 hR hR' b2
  go_enter Try.func17, Try.ntmps17
  go_wp2_with fail
  refine (HB.out w).mono ?_
  rintro e w1 ⟨rfl, hb1⟩
  have HB1 := Lib.hid hb1
  have z1 := hb1.size
  clear hb1
  go_wp2_with fail
  refine (HTwo.out w1).mono ?_
  rintro e w2 ⟨t, f0, rfl, rep2, hf2, hb2⟩
  have R2 := Lib.hid rep2
  have HF2 := Lib.hid (fun x hx => Nat.le_trans z1 (hf2 x hx))
  have HB2 := Lib.hid (HB1.out.trans (hb2.mono z1))
  clear rep2 hf2 hb2
  go_wp2_with fail
  refine (within_any e0 20 E' _ (by omega) (by omega) HE.out).mono ?_
  rintro e w' ⟨rfl, rfl⟩
  go_wp2_with fail
  refine (within_any r0 20 R' _ (by omega) (by omega) HR.out).mono ?_
  rintro e w' ⟨rfl, rfl⟩
  go_wp2_with fail
  go_loopw [34] (fun i wr => ∃ (k : Nat) (S : TSt) (f : Nat → Prop), k ≤ R ∧ i = .int .i64 k ∧ TRep wr t S f ∧ FreshT E k S ∧ (∀ x, f x → w.heap.size ≤ x) ∧ Below w.heap.size w wr) (fun i _ => R - (intOf i).toNat)
  case atStart => exact ⟨0, _, f0, Nat.zero_le _, rfl, R2.out, HS0.out, HF2.out, HB2.out⟩
  case round =>
    obtain ⟨wx, rfl⟩ : ∃ z : World, z = wr := ⟨_, rfl⟩
    obtain ⟨k, S, f, hk, rfl, hrep, hok, hf, bel⟩ := hrel
    have sz0 := bel.size
    by_cases hlt : k < R
    · have kw : IntKind.i64.wrap ((k : Int) + 1) = (k : Int) + 1 := IntWalk.i64_in _ (by omega)
      have kl : (k : Int) < R := by omega
      have hy : S.way.length = 2 * k := hok.way
      obtain ⟨tk1, tk2, _⟩ := hok.two.tick EB.1 (g := E) (by omega) (by have := Int.mul_le_mul EB.2 (show (k : Int) ≤ 20 by omega) (by omega) (by omega); omega)
      have HT := Lib.hid (fun w' (h : TRep w' t S f) => ttick_ok w' h tk1)
      have mid := hok.tick EB5 (by omega)
      rw [tk2, hok.sum EB5, hy] at HT
      have HWy := Lib.hid (fun w' (h : TRep w' t S f) => tway_ok w' h (by rw [hy]; omega))
      rw [hy] at HWy
      have HW1 := Lib.hid (fun f' w' (h : TRep w' t (twS S E 2) f') => tway_ok w' h (by rw [mid.way]; omega))
      rw [mid.way] at HW1
      have HM := Lib.hid mid
      obtain ⟨y, hyy⟩ : ∃ y, 2 * k = y := ⟨_, rfl⟩
      rw [hyy] at HWy HT HW1
      have y2 : IntKind.i64.wrap ((y : Int) + 2) = ((y + 2 : Nat) : Int) := by rw [IntWalk.i64_in _ (by omega)]; omega
      have HY := Lib.hid hyy
      have HRep := Lib.hid hrep
      have HF := Lib.hid hf
      have HBe := Lib.hid bel
      clear tk1 tk2 mid hy hyy hrep hok hf bel
      go_wp2_with fail
      refine (HWy.out _ HRep.out).mono ?_
      rintro e w3 ⟨A3, c3, rfl, _, hb3⟩
      have R3 := Lib.hid (HRep.out.below hb3)
      have B3 := Lib.hid (HBe.out.trans (hb3.mono sz0))
      clear hb3
      go_wp2_with fail
      refine (HT.out _ R3.out).mono ?_
      rintro e w4 (⟨h, _, _⟩ | ⟨_, A4, c4, f4, rfl, _, h4, hf4, k4⟩)
      · exact absurd h (by have := HY.out; omega)
      have R4 := Lib.hid h4
      have B4 := Lib.hid (B3.out.trans (k4.below B3.out.size HF.out))
      have F4 := Lib.hid (fun x hx => (hf4 x hx).elim (HF.out x) (fun h => Nat.le_trans B3.out.size h))
      clear h4 hf4 k4
      go_wp2_with fail
      refine (HW1.out _ _ R4.out).mono ?_
      rintro e w5 ⟨A5, c5, rfl, _, hb5⟩
      have R5 := Lib.hid (R4.out.below hb5)
      have B5 := Lib.hid (B4.out.trans (hb5.mono B4.out.size))
      clear hb5
      go_wp2_with fail
      go_loopw [11] (fun i wr => ∃ (j : Nat) (S : TSt) (f : Nat → Prop), j ≤ 2 ∧ i = .int .i64 ((y + j : Nat) : Int) ∧ TRep wr t S f ∧ MidT E k j S ∧ (∀ x, f x → w.heap.size ≤ x) ∧ Below w.heap.size w wr) (fun i _ => y + 2 - (intOf i).toNat)
      case atStart => exact ⟨0, _, f4, Nat.zero_le _, rfl, R5.out, HM.out, F4.out, B5.out⟩
      case round =>
        obtain ⟨wy, rfl⟩ : ∃ z : World, z = wr := ⟨_, rfl⟩
        clear R5 B5 R4 B4 R3 B3 HM F4
        obtain ⟨j, S1, f1, hj, rfl, hrep, hm, hf, bel⟩ := hrel
        have sz1 := bel.size
        by_cases hj2 : j < 2
        · obtain ⟨nx, t1, cs⟩ := hm.next EB5 hj2 (by omega)
          obtain ⟨q, hq⟩ : ∃ q : Int, ((k + 1 : Nat) : Int) = q := ⟨_, rfl⟩
          have q1 : 1 ≤ q ∧ q < 2147483648 := by omega
          have htx : S1.way.getD (y + j) ⟨#[]⟩ = mkB (encL (byts (nmT j)) 0 q.toNat) := by
            have := hm.txt j hj2
            rw [HY.out] at this
            rw [this, ← hq]
            rfl
          rw [hq] at nx t1 cs
          have hwl : S1.way.length = y + 2 := by rw [hm.way, HY.out]
          have HB1 := Lib.hid (fun w' (h : TRep w' t S1 f1) => tbring_ok (i := y + j) (u := 0) w' h (by rw [hwl]; omega) (by rw [hm.two.tok.sn]; omega) (by rw [hm.two.dead]) (hm.two.tok.tn 0 (by omega)).ok (nmT_ok j) q1 htx)
          obtain ⟨P, hP⟩ : ∃ x, setN S1 0 (hearF (S1.nd 0) (nmT j) q).1 = x := ⟨_, rfl⟩
          have hPw : P.way = S1.way := by rw [← hP]; rfl
          rw [hP] at nx t1 cs HB1
          have HB2 := Lib.hid (fun f' w' (h : TRep w' t P f') => tbring_ok (i := y + j) (u := 1) w' h (by rw [hPw, hwl]; omega) (by rw [t1.tok.sn]; omega) (by rw [t1.dead]) (t1.tok.tn 1 (by omega)).ok (nmT_ok j) q1 (by rw [hPw]; exact htx))
          obtain ⟨p, hp⟩ : ∃ p : Nat, y + j = p := ⟨_, rfl⟩
          rw [hp] at HB1 HB2
          rw [hp]
          have pl : (p : Int) < ((y + 2 : Nat) : Int) := by omega
          have pw : IntKind.i64.wrap ((p : Int) + 1) = (p : Int) + 1 := IntWalk.i64_in _ (by omega)
          have HP := Lib.hid hp
          have HN := Lib.hid nx
          have HCs := Lib.hid cs
          have HRep := Lib.hid hrep
          have HF := Lib.hid hf
          have HBe := Lib.hid bel
          clear nx t1 cs hq htx hwl hP hPw hp hm hrep hf bel
          go_wp2_with fail
          refine (HB1.out _ HRep.out).mono ?_
          rintro e w5 ⟨A5, c5, e5, f5, rfl, h5, hf5, k5, g5, gx, g5'⟩
          clear gx
          have R5 := Lib.hid h5
          have B5 := Lib.hid (HBe.out.trans (k5.below sz1 HF.out))
          have F5 := Lib.hid (fun x hx => (hf5 x hx).elim (HF.out x) (fun h => Nat.le_trans sz1 h))
          have G5 := Lib.hid (And.intro g5 g5')
          clear h5 hf5 k5 g5 g5'
          go_wp2_with fail
          refine (HB2.out _ _ R5.out).mono ?_
          rintro e w6 ⟨A6, c6, e6, f6, rfl, h6, hf6, k6, g6, gx, g6'⟩
          clear gx
          have R6 := Lib.hid h6
          have B6 := Lib.hid (B5.out.trans (k6.below B5.out.size F5.out))
          have F6 := Lib.hid (fun x hx => (hf6 x hx).elim (F5.out x) (fun h => Nat.le_trans B5.out.size h))
          have G6 := Lib.hid (And.intro g6 g6')
          clear h6 hf6 k6 g6 g6'
          rcases HCs.out with ⟨hcx, hc1, hc2, hc3⟩ | ⟨hcx, hc1, hc2, hc3⟩ <;> clear hcx
          · have E5 : (e5 == 0) = false := by have := G5.out.2 hc1; simpa using this
            have E5' : ¬ e5 = 0 := by simpa using E5
            have E6 := G6.out.1 hc2 hc3
            subst E6
            clear hc1 hc2 hc3
            go_wp2_with fail
            go_roundw
            case rel => exact ⟨j + 1, _, f6, by omega, by first | go_num | (have := HP.out; simp; omega), R6.out, HN.out, F6.out, B6.out⟩
            case measure => have := HP.out; simp [intOf]; omega
          · have E5 := G5.out.1 hc1 hc2
            subst E5
            have E6 : ((0 : Int) == e6) = false := by have := G6.out.2 hc3; simp at this ⊢; omega
            have E7 : (e6 == 0) = false := by have := G6.out.2 hc3; simpa using this
            clear hc1 hc2 hc3
            go_wp2_with fail
            go_roundw
            case rel => exact ⟨j + 1, _, f6, by omega, by first | go_num | (have := HP.out; simp; omega), R6.out, HN.out, F6.out, B6.out⟩
            case measure => have := HP.out; simp [intOf]; omega
        · obtain rfl : j = 2 := by omega
          obtain ⟨fr, lv⟩ := hm.fin EB5
          have HLv := Lib.hid (fun j (hj : j < 2) w' (h : TRep w' t S1 f1) => tlevel_ok (i := j) w' (nmT (1 - j)) h (by rw [hm.two.tok.sn]; exact hj) (by rw [hm.two.dead]) (hm.two.tok.tn j hj).ok 0 0 (lv j hj) (by rw [hm.two.tok.knows j (1 - j) hj (by omega), show decide (j ≠ 1 - j) = true by simp; omega]; rfl))
          have HFr := Lib.hid fr
          have HRep := Lib.hid hrep
          have HF := Lib.hid hf
          have HBe := Lib.hid bel
          have HFl := Lib.hid hrep.lt
          have qa := alloc_cells
          have qf := alloc_frozens
          clear hm fr lv hrep hf bel
          go_wp2_with fail
          have str5 : ∀ k : Nat, k < 2 → (wy.alloc (.cells #[.string ⟨#[98]⟩, .string ⟨#[97]⟩] 9)).cell? ⟨wy.heap.size, k, none⟩ = some (.string (nmT (1 - k))) := fun k hk => by
            rcases (show k = 0 ∨ k = 1 by omega) with rfl | rfl <;> simp [alloc_cells] <;> rfl
          have HS5 := Lib.hid str5
          have ab : Below wy.heap.size wy (wy.alloc (.cells #[.string ⟨#[98]⟩, .string ⟨#[97]⟩] 9)) := (Below.refl _ _).alloc (Nat.le_refl _) _
          have R5 := Lib.hid (HRep.out.below ab)
          have B5 := Lib.hid (HBe.out.trans (ab.mono sz1))
          have z5 : (wy.alloc (.cells #[.string ⟨#[98]⟩, .string ⟨#[97]⟩] 9)).heap.size = wy.heap.size + 1 := by simp
          clear str5 ab qa qf
          generalize wy.alloc (.cells #[.string ⟨#[98]⟩, .string ⟨#[97]⟩] 9) = w5 at HS5 R5 B5 z5 ⊢
          obtain ⟨SB, hSB⟩ : ∃ SB, wy.heap.size = SB := ⟨_, rfl⟩
          rw [hSB] at HS5 z5 ⊢
          clear hSB
          go_loopw [87] (fun i wz => ∃ (j : Nat), j ≤ 2 ∧ i = .int .i64 j ∧ TRep wz t S1 f1 ∧ Below w.heap.size w wz ∧ SB < wz.heap.size ∧ ∀ k : Nat, k < 2 → wz.cell? ⟨SB, k, none⟩ = some (.string (nmT (1 - k)))) (fun i _ => 2 - (intOf i).toNat)
          case atStart => exact ⟨0, Nat.zero_le _, rfl, R5.out, B5.out, by omega, HS5.out⟩
          case round =>
            obtain ⟨wz, rfl⟩ : ∃ z : World, z = wr := ⟨_, rfl⟩
            clear R5 B5 HS5 z5
            obtain ⟨j, hj, rfl, hrep, bel, hSl, hstr⟩ := hrel
            have szz := bel.size
            by_cases hj2 : j < 2
            · have kc := hstr j hj2
              obtain ⟨id, hid⟩ : ∃ id, nmT (1 - j) = id := ⟨_, rfl⟩
              have HL := Lib.hid (HLv.out j hj2)
              rw [hid] at kc HL
              have jw : IntKind.i64.wrap ((j : Int) + 1) = (j : Int) + 1 := IntWalk.i64_in _ (by omega)
              have jl : (j : Int) < 2 := by omega
              have HStr := Lib.hid hstr
              have HRep := Lib.hid hrep
              have HBe := Lib.hid bel
              clear hid hstr hrep bel
              go_wp2_with fail
              refine (HL.out _ HRep.out).mono ?_
              rintro e w6 ⟨rfl, hb6⟩
              have R6 := Lib.hid (HRep.out.below hb6)
              have B6 := Lib.hid (HBe.out.trans (hb6.mono szz))
              have S6 := Lib.hid (fun k hk => (hb6.cell (p := ⟨SB, k, none⟩) hSl).trans (HStr.out k hk))
              have z6 := hb6.size
              clear hb6
              go_wp2_with fail
              go_roundw
              case rel => first | exact ⟨j + 1, by omega, by go_num, R6.out, B6.out, by omega, S6.out⟩ | ((repeat apply Exists.intro); exact ⟨⟨j + 1, by omega, by go_num, R6.out, B6.out, by omega, S6.out⟩, rfl⟩)
              case measure => simp [intOf]; omega
            · obtain rfl : j = 2 := by omega
              have HRep := Lib.hid hrep
              have HBe := Lib.hid bel
              clear hrep bel hstr
              go_wp2_with fail
              go_roundw
              case rel => exact ⟨k + 1, S1, f1, by omega, by go_num, HRep.out, HFr.out, HF.out, HBe.out⟩
              case measure => simp [intOf]; omega
    · obtain rfl : R = k := by omega
      have bm := within_bd m0 (n := E + 1) (by omega)
      obtain ⟨M, hM⟩ : ∃ M, within m0 (E + 1) = M := ⟨_, rfl⟩
      rw [hM] at bm
      obtain ⟨E2, hE2⟩ : ∃ x, E + 1 = x := ⟨_, rfl⟩
      have E2b : 0 < E2 ∧ E2 ≤ 9223372036854775807 := by omega
      have e1 : IntKind.i64.wrap (E + 1) = E2 := by rw [hE2]; exact IntWalk.i64_in _ (by omega)
      rw [hE2] at hM bm
      have HM := Lib.hid hM
      by_cases hM0 : M = 0
      · subst hM0
        have HBe := Lib.hid bel
        clear hM hE2 hrep hok hf bel bm
        go_wp2_with fail
        refine (within_any m0 E2 0 _ E2b.1 E2b.2 HM.out).mono ?_
        rintro e w' ⟨rfl, rfl⟩
        go_wp2_with fail
        go_ret
        exact ⟨rfl, HBe.out⟩
      · have hM' : (M == 0) = false := by simp [hM0]
        have bw := Int.mul_le_mul EB.2 (show (R : Int) ≤ 20 by omega) (by omega) (by omega)
        obtain ⟨tk1, tk2, tk3⟩ := hok.two.tick EB.1 (g := M) (by omega) (by omega)
        have hsm := sumM_bd tk1 2 (by rw [tk2]; omega)
        have hwl : S.way.length + sumM S M 2 ≤ 1000 := by have := hok.way; omega
        obtain ⟨lv, tn, hk2⟩ := hok.later EB5 (g := M) (by omega) (by omega) hwl
        have two := (tk3 hwl).1
        have HT := Lib.hid (fun w' (h : TRep w' t S f) => ttick_ok w' h tk1)
        rw [tk2] at HT
        have HLv := Lib.hid (fun f' w' (h : TRep w' t (twS S M 2) f') => tlevel_ok (i := 0) w' nB h (by rw [two.tok.sn]; omega) (by rw [two.dead]) tn.ok 0 0 lv (by rw [show has ((twS S M 2).nd 0).peers nB = true from hk2]; rfl))
        have HWl := Lib.hid hwl
        have HRep := Lib.hid hrep
        have HF := Lib.hid hf
        have HBe := Lib.hid bel
        clear hM hE2 bm bw tk1 tk2 tk3 hsm hwl lv tn hk2 two hok hrep hf bel
        go_wp2_with fail
        refine (within_any m0 E2 M _ E2b.1 E2b.2 HM.out).mono ?_
        rintro e w' ⟨rfl, rfl⟩
        go_wp2_with fail
        refine (HT.out _ HRep.out).mono ?_
        rintro e w4 (⟨h, _, _⟩ | ⟨_, A4, c4, f4, rfl, _, h4, hf4, k4⟩)
        · exact absurd h (by have := HWl.out; omega)
        have R4 := Lib.hid h4
        have B4 := Lib.hid (HBe.out.trans (k4.below sz0 HF.out))
        clear h4 hf4 k4
        go_wp2_with fail
        refine (HLv.out _ _ R4.out).mono ?_
        rintro e w5 ⟨rfl, hb5⟩
        have B5 := Lib.hid (B4.out.trans (hb5.mono B4.out.size))
        clear hb5
        go_wp2_with fail
        go_ret
        exact ⟨rfl, B5.out⟩
end Go.Proofs.Ytpomdnglknbanaa
