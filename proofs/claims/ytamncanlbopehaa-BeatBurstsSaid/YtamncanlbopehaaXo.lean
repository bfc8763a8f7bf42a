/-
  The walk of the statements' own xor: three texts of one length, byte by byte.
-/
import Derived.Test.YtamncanlbopehaaCo
import Derived.Test.YtamncanlbopehaaLs
import Derived.Laws.IdiomStrings
import Derived.Deep.RegionHeld3
import Derived.Deep.AppendLies
set_option linter.unusedSimpArgs false
set_option linter.unusedVariables false
namespace Go.Proofs.Ytamncanlbopehaa
open Go.RowKit

theorem ofInt_i64 (a : Nat) (ha : a < 4294967296) : (BitVec.ofInt 64 (a : Int)).toNat = a := by
  rw [BitVec.ofInt_natCast, BitVec.toNat_ofNat]; exact Nat.mod_eq_of_lt (by omega)
theorem i64_xor_nat (a b : Nat) (ha : a < 4294967296) (hb : b < 4294967296) : bits .xor .i64 (a : Int) (b : Int) = ((a ^^^ b : Nat) : Int) := by
  have hx : a ^^^ b < 2 ^ 32 := Nat.xor_lt_two_pow (by omega) (by omega)
  show IntKind.i64.wrap ((BitVec.ofInt 64 (a : Int) ^^^ BitVec.ofInt 64 (b : Int)).toNat : Int) = _
  rw [BitVec.toNat_xor, ofInt_i64 a ha, ofInt_i64 b hb]
  exact IntWalk.i64_in _ (by omega)
theorem i64_or_nat (a b : Nat) (ha : a < 4294967296) (hb : b < 4294967296) : bits .or .i64 (a : Int) (b : Int) = ((a ||| b : Nat) : Int) := by
  have hx : a ||| b < 2 ^ 32 := Nat.or_lt_two_pow (by omega) (by omega)
  show IntKind.i64.wrap ((BitVec.ofInt 64 (a : Int) ||| BitVec.ofInt 64 (b : Int)).toNat : Int) = _
  rw [BitVec.toNat_or, ofInt_i64 a ha, ofInt_i64 b hb]
  exact IntWalk.i64_in _ (by omega)
/-- A text of these bytes. -/
def mkB (l : List Nat) : ByteArray := ⟨(l.map UInt8.ofNat).toArray⟩
theorem byts_mkB {l : List Nat} (h : Bytes l) : byts (mkB l) = l := by
  unfold byts mkB
  simp only [List.map_map]
  rw [List.map_congr_left (g := id)]
  · simp
  · intro x hx
    have := h x hx
    simp; omega
theorem mkB_size (l : List Nat) : (mkB l).size = l.length := by
  unfold mkB; simp [ByteArray.size]
theorem mkB_byts (s : ByteArray) : mkB (byts s) = s := by
  unfold mkB byts
  simp only [List.map_map]
  rw [List.map_congr_left (g := id)]
  · simp
  · intro x hx; simp
theorem info_u8 : (Try.prog.info? 5).map (fun i => (i.zero, i.size, i.bytes)) = some (some (.int .u8 0), 1, 1) := by kernel_rfl
theorem xor3_len : ∀ (a b c : List Nat), a.length = b.length → b.length = c.length → (xor3 a b c).length = a.length
  | [], [], [], _, _ => rfl
  | x :: a, y :: b, z :: c, h1, h2 => by simp only [xor3, List.length_cons] at *; rw [xor3_len a b c (by omega) (by omega)]
theorem xor3_get : ∀ (a b c : List Nat) (k : Nat), a.length = b.length → b.length = c.length → k < a.length → (xor3 a b c).getD k 0 = a.getD k 0 ^^^ b.getD k 0 ^^^ c.getD k 0
  | [], [], [], k, _, _, h => by simp at h
  | x :: a, y :: b, z :: c, 0, h1, h2, h => by simp [xor3]
  | x :: a, y :: b, z :: c, k + 1, h1, h2, h => by
    simp only [List.length_cons] at *
    have := xor3_get a b c k (by omega) (by omega) (by omega)
    simpa [xor3] using this
theorem xor3_bytes : ∀ (a b c : List Nat), Bytes a → Bytes b → Bytes c → Bytes (xor3 a b c) := by
  intro a
  induction a with
  | nil => intro b c _ _ _; unfold xor3; intro x hx; cases hx
  | cons x a ih =>
    intro b c ha hb hc
    cases b with
    | nil => unfold xor3; intro x hx; cases hx
    | cons y b =>
      cases c with
      | nil => unfold xor3; intro x hx; cases hx
      | cons z c =>
        unfold xor3
        intro v hv
        rcases List.mem_cons.1 hv with rfl | hv
        · exact Nat.xor_lt_two_pow (n := 8) (Nat.xor_lt_two_pow (n := 8) ha.head hb.head) hc.head
        · exact ih b c ha.tail hb.tail hc.tail v hv
/-- A byte's value. -/
abbrev bv (b : Nat) : Value := .int .u8 (b : Int)
set_option maxRecDepth 1000000 in
/-- 'string(b)' of a row of the call's own. -/
theorem run_own_text (w : World) {base n c : Nat} {A : Option Addr} {l : List Nat} (hb : Bytes l) (h : w.ownsRow base 5 1 (.slice A n c) n (l.map bv)) :
    (convert 91 9 (.slice A n c)).run Try.prog w = .ok (.string (mkB l)) w := by
  have hl : l.length = n := by have := h.1; simpa using this
  rcases Nat.eq_zero_or_pos n with h0 | h0
  · subst h0
    obtain rfl : l = [] := List.eq_nil_of_length_eq_zero hl
    rcases h.2 with ⟨e, _⟩ | ⟨g, cap, cur, e, _⟩
    · injection e with e1 e2 e3
      subst e1 e3
      rw [run_convert_bytes_string w 91 9 5 none 0 0 Try.underlying91 Try.underlying5 Try.underlying9]
      rfl
    · injection e with e1 e2 e3
      subst e1 e3
      exact run_convert_bytes_back w 91 9 5 ⟨g, 0, none⟩ c [] Try.underlying91 Try.underlying5 Try.underlying9 (fun j hj => absurd hj (by simp))
  · obtain ⟨g, cap, e, _⟩ := h.form h0
    injection e with e1 e2 e3
    subst e1
    have hc := h.cells (g := g) rfl
    have := run_convert_bytes_back w 91 9 5 ⟨g, 0, none⟩ c (l.map UInt8.ofNat) Try.underlying91 Try.underlying5 Try.underlying9 (fun j hj => by
      rw [List.length_map] at hj
      refine hc j _ ?_
      rw [List.getElem?_map, List.getElem?_eq_getElem hj]
      simp only [List.getElem_map, Option.map_some, bv]
      have := hb l[j] (List.getElem_mem hj)
      congr 2
      simp; omega)
    rw [List.length_map, hl] at this
    exact this
theorem bv_one (y : Nat) : ∀ u ∈ [bv y], u.oneCell' = true := by intro u hu; simp at hu; subst hu; rfl
theorem bv_cells (w : World) (y : Nat) (T : TypeId) : ∀ j u, [bv y][j]? = some u → (w.alloc (.cells #[bv y] T)).cell? ((⟨w.heap.size, 0, none⟩ : Addr).add j) = some u := by
  intro j u hj
  match j, hj with
  | 0, hj => simp at hj; subst hj; rw [Go.WideShapes.add_plain, World.cell?_alloc_new]; simp

set_option maxHeartbeats 4000000 in
set_option maxRecDepth 100000 in
theorem xor_ok (s t u : ByteArray) (n : Nat) (w : World) (hs : s.size = n) (ht : t.size = n) (hu : u.size = n) (hm : n ≤ 140737488351232) :
    Calls Try.prog 21 #[.string s, .string t, .string u] w fun e w' => e = .returned (.string (mkB (xor3 (byts s) (byts t) (byts u)))) ∧ Below w.heap.size w w' := by
  obtain ⟨l, hl⟩ : ∃ l, l = xor3 (byts s) (byts t) (byts u) := ⟨_, rfl⟩
  have e1 : (byts s).length = (byts t).length := by rw [byts_len, byts_len, hs, ht]
  have e2 : (byts t).length = (byts u).length := by rw [byts_len, byts_len, hu, ht]
  have lg : ∀ k (h : k < n), l.getD k 0 = (s[k]'(by rw [hs]; exact h)).toNat ^^^ (t[k]'(by rw [ht]; exact h)).toNat ^^^ (u[k]'(by rw [hu]; exact h)).toNat := fun k h => by
    have := xor3_get (byts s) (byts t) (byts u) k e1 e2 (by rw [byts_len, hs]; exact h)
    rw [byts_get s (by rw [hs]; exact h), byts_get t (by rw [ht]; exact h), byts_get u (by rw [hu]; exact h), ← hl] at this
    exact this
  have ln : l.length = n := by rw [hl, xor3_len _ _ _ e1 e2, byts_len, hs]
  have lb : Bytes l := by rw [hl]; exact xor3_bytes _ _ _ (byts_bytes _) (byts_bytes _) (byts_bytes _)
  rw [← hl]
  obtain ⟨i0, hi, hz0, hz1, hz2⟩ := info_parts info_u8
  have HL := Lib.hid ln
  have HG := Lib.hid lg
  have HB := Lib.hid lb
  clear hl e1 e2 ln lg lb
  go_enter Try.func21, Try.ntmps21
  go_wp2_with fail
  go_loopw [7, 11] (fun v i wr => ∃ k : Nat, k ≤ n ∧ i = .int .i64 k ∧ wr.ownsRow w.heap.size 5 1 v k ((List.take k l).map bv) ∧ Below w.heap.size w wr) (fun _ i _ => n - (intOf i).toNat)
  case atStart => exact ⟨0, Nat.zero_le _, rfl, World.ownsRow_nil _ _ _ _, Below.refl _ _⟩
  case round =>
    obtain ⟨k, hk, rfl, hown, bel⟩ := hrel
    have hsz := bel.size
    by_cases hlt : k < n
    · have hg := HG.out k hlt
      obtain ⟨x, hx⟩ : ∃ x : UInt8, s[k]'(by rw [hs]; exact hlt) = x := ⟨_, rfl⟩
      obtain ⟨y, hy⟩ : ∃ x : UInt8, t[k]'(by rw [ht]; exact hlt) = x := ⟨_, rfl⟩
      obtain ⟨z, hz⟩ : ∃ x : UInt8, u[k]'(by rw [hu]; exact hlt) = x := ⟨_, rfl⟩
      rw [hx, hy, hz] at hg
      have xb := UInt8.toNat_lt x
      have yb := UInt8.toNat_lt y
      have zb := UInt8.toNat_lt z
      obtain ⟨X, hX⟩ : ∃ X, x.toNat = X := ⟨_, rfl⟩
      obtain ⟨Y, hY⟩ : ∃ X, y.toNat = X := ⟨_, rfl⟩
      obtain ⟨Z, hZ⟩ : ∃ X, z.toNat = X := ⟨_, rfl⟩
      rw [hX, hY, hZ] at hg
      rw [hX] at xb
      rw [hY] at yb
      rw [hZ] at zb
      obtain ⟨V, hV⟩ : ∃ V, X ^^^ Y = V := ⟨_, rfl⟩
      have vb : V < 256 := by rw [← hV]; exact Nat.xor_lt_two_pow (n := 8) xb yb
      obtain ⟨U, hU⟩ : ∃ U, V ^^^ Z = U := ⟨_, rfl⟩
      have f1 : bits .xor .u8 (X : Int) (Y : Int) = (V : Int) := by rw [u8_xor_nat _ _ xb yb, hV]
      have f2 : bits .xor .u8 (V : Int) (Z : Int) = (U : Int) := by rw [u8_xor_nat _ _ vb zb, hU]
      rw [hV, hU] at hg
      have htk : List.take (k + 1) l = List.take k l ++ [U] := by
        have hkl : k < l.length := by have := HL.out; omega
        rw [List.take_succ_eq_append_getElem hkl]
        have : l[k] = l.getD k 0 := by simp [List.getD, hkl]
        rw [this, hg]
      have HT := Lib.hid htk
      have d1 : decide ((k : Int) < (n : Int)) = true := by simpa using hlt
      have d2 : (0 : Int) ≤ (k : Int) := Int.natCast_nonneg _
      have d3 : (k : Int) < (n : Int) := by omega
      clear hg htk hV hU
      go_wp2_with fail
      go_region_held3 (fun w' => True) (exact trivial)
        ((refine step_append_lies _ (by rfl) _ _ _ (by rfl) w.heap.size 5 i0 _ 1 1 Try.underlying91 hi hz0 hz1 hz2 rfl (by omega) _ k ((List.take k l).map bv) (by rfl) ((hown.alloc _).drew)
            ⟨wr.heap.size, 0, none⟩ 1 1 [bv U] (by rfl) (by rfl) (World.news_of_block (cs := #[bv U]) (t := 5) (fr := (0, 0)) (heap_alloc_new wr _)) (bv_one U)
            (by omega) (by unfold maxLen; omega) (by omega) (by simp; omega) (wr.heap.size + 1) (by simp) ?_; intro gg cap wq ownq grq atq ltq))
      all_goals
        have own2 : wq.ownsRow w.heap.size 5 1 (.slice (some ⟨gg, 0, none⟩) (k + 1) cap) (k + 1) ((List.take (k + 1) l).map bv) := by rw [HT.out]; simpa [List.map_append, List.map_take] using ownq
        have bel2 := (bel.alloc hsz _).drew.grown grq (by simp; omega) (fun g hg => (hown.lt g hg).1)
        have HO := Lib.hid own2
        clear ownq grq hown own2 bel
        go_wp2_with fail
        go_roundw
        case rel => exact ⟨k + 1, by omega, by go_num, HO.out, bel2⟩
        case measure => simp [intOf]; omega
    · obtain rfl : n = k := by omega
      rw [List.take_of_length_le (by have := HL.out; omega)] at hown
      obtain ⟨A', c', rfl, q1, q2, q3⟩ := own_form hown
      have hcv := run_own_text wr HB.out hown
      clear hown
      go_wp2_with fail
      go_ret
      exact ⟨rfl, bel⟩
end Go.Proofs.Ytamncanlbopehaa
