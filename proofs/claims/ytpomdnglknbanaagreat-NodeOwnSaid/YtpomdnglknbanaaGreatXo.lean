
/-
  The walk of the statements' own xor: three texts of one length, byte by byte.
-/
import Derived.Test.YtpomdnglknbanaaGreatCo
import Derived.Test.YtpomdnglknbanaaGreatLs
import Derived.Laws.IdiomStrings
import Derived.Deep.RegionHeld3
import Derived.Deep.AppendLies
set_option linter.unusedSimpArgs false
set_option linter.unusedVariables false
namespace Go.Proofs.YtpomdnglknbanaaGreat
open Go.RowKit

theorem ofInt_i64 (a : Nat) (ha : a < 4294967296) : (BitVec.ofInt 64 (a : Int)).toNat = a := by
  rw [BitVec.ofInt_natCast, BitVec.toNat_ofNat]; exact Nat.mod_eq_of_lt (by omega)
theorem i64_xor_nat (a b : Nat) (ha : a < 4294967296) (hb : b < 4294967296) : bits .xor .i64 (a : Int) (b : Int) = ((a ^^^ b : Nat) : Int) := by
  have hx : a ^^^ b < 2 ^ 32 := Nat.xor_lt_two_pow (by omega) (by omega)
  show IntKind.i64.wrap ((BitVec.ofInt 64 (a : Int) ^^^ BitVec.ofInt 64 (b : Int)).toNat : Int) = _
  rw [BitVec.toNat_xor, ofInt_i64 a ha, ofInt_i64 b hb]
  exact IntWalk.i64_in _ (by omega)
theorem i64_or_nat (a b : Nat) (ha : a < 4294967296) (hb : b < 4294967296) : bits .or .i64 (a : Int) (b : Int) = ((a ||| b : Nat) : Int) := by
  have hx : a ||| b < 2 ^ 32 := Nat.or_lt_two_pow (by omega) (by omega)
  show IntKind.i64.wrap ((BitVec.ofInt 64 (a : Int) ||| BitVec.ofInt 64 (b : Int)).toNat : Int) = _
  rw [BitVec.toNat_or, ofInt_i64 a ha, ofInt_i64 b hb]
  exact IntWalk.i64_in _ (by omega)
/-- A text of these bytes. -/
def mkB (l : List Nat) : ByteArray := ⟨(l.map UInt8.ofNat).toArray⟩
theorem byts_mkB {l : List Nat} (h : Bytes l) : byts (mkB l) = l := by
  unfold byts mkB
  simp only [List.map_map]
  rw [List.map_congr_left (g := id)]
  · simp
  · intro x hx
    have := h x hx
    simp; omega
theorem mkB_size (l : List Nat) : (mkB l).size = l.length := by
  unfold mkB; simp [ByteArray.size]
theorem mkB_byts (s : ByteArray) : mkB (byts s) = s := by
  unfold mkB byts
  simp only [List.map_map]
  rw [List.map_congr_left (g := id)]
  · simp
  · intro x hx; simp
theorem info_u8 : (Tryz.prog.info? 5).map (fun i => (i.zero, i.size, i.bytes)) = some (some (.int .u8 0), 1, 1) := by kernel_rfl
theorem xor3_len : ∀ (a b c : List Nat), a.length = b.length → b.length = c.length → (xor3 a b c).length = a.length
  | [], [], [], _, _ => rfl
  | x :: a, y :: b, z :: c, h1, h2 => by simp only [xor3, List.length_cons] at *; rw [xor3_len a b c (by omega) (by omega)]
theorem xor3_get : ∀ (a b c : List Nat) (k : Nat), a.length = b.length → b.length = c.length → k < a.length → (xor3 a b c).getD k 0 = a.getD k 0 ^^^ b.getD k 0 ^^^ c.getD k 0
  | [], [], [], k, _, _, h => by simp at h
  | x :: a, y :: b, z :: c, 0, h1, h2, h => by simp [xor3]
  | x :: a, y :: b, z :: c, k + 1, h1, h2, h => by
    simp only [List.length_cons] at *
    have := xor3_get a b c k (by omega) (by omega) (by omega)
    simpa [xor3] using this
theorem xor3_bytes : ∀ (a b c : List Nat), Bytes a → Bytes b → Bytes c → Bytes (xor3 a b c) := by
  intro a
  induction a with
  | nil => intro b c _ _ _; unfold xor3; intro x hx; cases hx
  | cons x a ih =>
    intro b c ha hb hc
    cases b with
    | nil => unfold xor3; intro x hx; cases hx
    | cons y b =>
      cases c with
      | nil => unfold xor3; intro x hx; cases hx
      | cons z c =>
        unfold xor3
        intro v hv
        rcases List.mem_cons.1 hv with rfl | hv
        · exact Nat.xor_lt_two_pow (n := 8) (Nat.xor_lt_two_pow (n := 8) ha.head hb.head) hc.head
        · exact ih b c ha.tail hb.tail hc.tail v hv
/-- A byte's value. -/
abbrev bv (b : Nat) : Value := .int .u8 (b : Int)
set_option maxRecDepth 1000000 in
/-- 'string(b)' of a row of the call's own. -/
theorem run_own_text (w : World) {base n c : Nat} {A : Option Addr} {l : List Nat} (hb : Bytes l) (h : w.ownsRow base 5 1 (.slice A n c) n (l.map bv)) :
    (convert 127 9 (.slice A n c)).run Tryz.prog w = .ok (.string (mkB l)) w := by
  have hl : l.length = n := by have := h.1; simpa using this
  rcases Nat.eq_zero_or_pos n with h0 | h0
  · subst h0
    obtain rfl : l = [] := List.eq_nil_of_length_eq_zero hl
    rcases h.2 with ⟨e, _⟩ | ⟨g, cap, cur, e, _⟩
    · injection e with e1 e2 e3
      subst e1 e3
      rw [run_convert_bytes_string w 127 9 5 none 0 0 Tryz.underlying127 Tryz.underlying5 Tryz.underlying9]
      rfl
    · injection e with e1 e2 e3
      subst e1 e3
      exact run_convert_bytes_back w 127 9 5 ⟨g, 0, none⟩ c [] Tryz.underlying127 Tryz.underlying5 Tryz.underlying9 (fun j hj => absurd hj (by simp))
  · obtain ⟨g, cap, e, _⟩ := h.form h0
    injection e with e1 e2 e3
    subst e1
    have hc := h.cells (g := g) rfl
    have := run_convert_bytes_back w 127 9 5 ⟨g, 0, none⟩ c (l.map UInt8.ofNat) Tryz.underlying127 Tryz.underlying5 Tryz.underlying9 (fun j hj => by
      rw [List.length_map] at hj
      refine hc j _ ?_
      rw [List.getElem?_map, List.getElem?_eq_getElem hj]
      simp only [List.getElem_map, Option.map_some, bv]
      have := hb l[j] (List.getElem_mem hj)
      congr 2
      simp; omega)
    rw [List.length_map, hl] at this
    exact this
theorem bv_one (y : Nat) : ∀ u ∈ [bv y], u.oneCell' = true := by intro u hu; simp at hu; subst hu; rfl
theorem bv_cells (w : World) (y : Nat) (T : TypeId) : ∀ j u, [bv y][j]? = some u → (w.alloc (.cells #[bv y] T)).cell? ((⟨w.heap.size, 0, none⟩ : Addr).add j) = some u := by
  intro j u hj
  match j, hj with
  | 0, hj => simp at hj; subst hj; rw [Go.WideShapes.add_plain, World.cell?_alloc_new]; simp

end Go.Proofs.YtpomdnglknbanaaGreat
