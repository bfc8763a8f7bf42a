/-
  beat.Encode: the bytes of a beat, or the empty text and why not.
-/
import Derived.Test.YtpomdnglknbanaaGreatBf
set_option linter.unusedSimpArgs false
set_option linter.unusedVariables false
namespace Go.Proofs.YtpomdnglknbanaaGreat
open Go.RowKit
set_option maxHeartbeats 4000000 in
set_option maxRecDepth 100000 in
theorem encode_ok (s : ByteArray) (i q : Nat) (w : World) (h : BOK (byts s) i q) :
    Calls Tryz.prog 25 #[.agg #[.string s, .int .i64 i, .int .i64 q]] w fun e w' => e = .returned (.tuple #[.string (mkB (encL (byts s) i q)), .int .i64 0]) ∧ Below w.heap.size w w' := by
  obtain ⟨hid, hi, hq1, hq2⟩ := h
  have HC := Lib.hid (fun w' => bcheck_ok s i q w' hid (by omega) (by omega))
  have HP := Lib.hid (fun w' => plain_ok s i q w' hid (by omega) (by omega))
  have hpl := plainL_len (byts s) i q
  have hpb := plainL_bytes (i := i) (s := q) hid
  have hsz := hid.2.1
  obtain ⟨n, hn⟩ : ∃ n, crcOf (plainL (byts s) i q) = n := ⟨_, rfl⟩
  have e : mkB (encL (byts s) i q) = mkB (plainL (byts s) i q) ++ mkB (fourL n) := by unfold encL; rw [hn, mkB_app]
  rw [e]
  clear e
  obtain ⟨L, hL⟩ : ∃ L, plainL (byts s) i q = L := ⟨_, rfl⟩
  rw [hL] at hpl hpb hn HP ⊢
  have hlt : n < 4294967296 := hn ▸ crcOf_lt hpb
  have z1 : (mkB L).size = L.length := mkB_size L
  have z2 : (mkB (fourL n)).size = 4 := mkB_size _
  have hR := fun w' => crc_ok (mkB L) n w' (by rw [mkB_size]; omega) (by rw [byts_mkB hpb]; exact hn)
  have hF := fun w' => four_ok n w' hlt
  obtain ⟨T, hT⟩ : ∃ T, mkB L = T := ⟨_, rfl⟩
  obtain ⟨U, hU⟩ : ∃ T, mkB (fourL n) = T := ⟨_, rfl⟩
  rw [hT] at z1 HP hR ⊢
  rw [hU] at z2 hF ⊢
  have HR := Lib.hid hR
  have HF := Lib.hid hF
  have z1' : T.size ≤ 18 := by omega
  clear hR hF hn hpb hL hT hU hid z1 hpl hsz
  have qa := alloc_cells
  have qf := alloc_frozens
  go_enter Tryz.func25, Tryz.ntmps25
  go_wp2_with fail
  refine (HC.out _).mono ?_
  rintro e w1 ⟨rfl, hb1⟩
  have z1 := hb1.size
  have c1 := Below.cells hb1
  have f1 := Below.frozens hb1
  try simp only [World.size_alloc, World.size_setCell, World.size_drew] at z1 c1 f1
  go_wp2_with fail
  refine (HP.out _).mono ?_
  rintro e w2 ⟨rfl, hb2⟩
  have z2 := hb2.size
  have c2 := Below.cells hb2
  have f2 := Below.frozens hb2
  try simp only [World.size_alloc, World.size_setCell, World.size_drew] at z2 c2 f2
  go_wp2_with fail
  refine (HR.out _).mono ?_
  rintro e w3 ⟨rfl, hb3⟩
  have z3 := hb3.size
  have c3 := Below.cells hb3
  have f3 := Below.frozens hb3
  try simp only [World.size_alloc, World.size_setCell, World.size_drew] at z3 c3 f3
  go_wp2_with fail
  refine (HF.out _).mono ?_
  rintro e w4 ⟨rfl, hb4⟩
  have z4 := hb4.size
  have c4 := Below.cells hb4
  have f4 := Below.frozens hb4
  try simp only [World.size_alloc, World.size_setCell, World.size_drew] at z4 c4 f4
  go_wp2_with fail
  go_ret2
  exact ⟨rfl, (by repeat (first | (with_reducible exact Below.refl _ _) | ((with_reducible refine Below.alloc ?_ ?_ _); rotate_left; (next => ((try dsimp only); (try simp only [World.size_alloc, World.size_setCell, World.size_drew]); omega))) | ((with_reducible refine Below.setCell ?_ ?_ _); rotate_left; (next => ((try dsimp only); (try simp only [World.size_alloc, World.size_setCell, World.size_drew]); omega))) | (with_reducible refine Below.drew ?_) | ((with_reducible refine Below.trans ?_ (Below.mono hb4 ?_)); rotate_left; (next => ((try dsimp only); (try simp only [World.size_alloc, World.size_setCell, World.size_drew]); omega))) | ((with_reducible refine Below.trans ?_ (Below.mono hb3 ?_)); rotate_left; (next => ((try dsimp only); (try simp only [World.size_alloc, World.size_setCell, World.size_drew]); omega))) | ((with_reducible refine Below.trans ?_ (Below.mono hb2 ?_)); rotate_left; (next => ((try dsimp only); (try simp only [World.size_alloc, World.size_setCell, World.size_drew]); omega))) | ((with_reducible refine Below.trans ?_ (Below.mono hb1 ?_)); rotate_left; (next => ((try dsimp only); (try simp only [World.size_alloc, World.size_setCell, World.size_drew]); omega)))))⟩
set_option maxHeartbeats 4000000 in
set_option maxRecDepth 100000 in
theorem encode_form (s : ByteArray) (i q : Int) (w : World) (hm : s.size ≤ 9223372036854775807) (h : ¬ IdOK (byts s)) :
    Calls Tryz.prog 25 #[.agg #[.string s, .int .i64 i, .int .i64 q]] w fun e w' => e = .returned (.tuple #[.string ⟨#[]⟩, .int .i64 3]) ∧ Below w.heap.size w w' := by
  have HC := Lib.hid (fun w' => bcheck_form s i q w' hm h)
  clear h
  have qa := alloc_cells
  have qf := alloc_frozens
  go_enter Tryz.func25, Tryz.ntmps25
  go_wp2_with fail
  refine (HC.out _).mono ?_
  rintro e w1 ⟨rfl, hb1⟩
  have z1 := hb1.size
  have c1 := Below.cells hb1
  have f1 := Below.frozens hb1
  try simp only [World.size_alloc, World.size_setCell, World.size_drew] at z1 c1 f1
  go_wp2_with fail
  go_ret2
  exact ⟨rfl, (by repeat (first | (with_reducible exact Below.refl _ _) | ((with_reducible refine Below.alloc ?_ ?_ _); rotate_left; (next => ((try dsimp only); (try simp only [World.size_alloc, World.size_setCell, World.size_drew]); omega))) | ((with_reducible refine Below.setCell ?_ ?_ _); rotate_left; (next => ((try dsimp only); (try simp only [World.size_alloc, World.size_setCell, World.size_drew]); omega))) | (with_reducible refine Below.drew ?_) | ((with_reducible refine Below.trans ?_ (Below.mono hb1 ?_)); rotate_left; (next => ((try dsimp only); (try simp only [World.size_alloc, World.size_setCell, World.size_drew]); omega)))))⟩
set_option maxHeartbeats 4000000 in
set_option maxRecDepth 100000 in
theorem encode_arg (s : ByteArray) (i q : Int) (w : World) (h : IdOK (byts s)) (hb : ¬ ((0 ≤ i ∧ i < 2147483648) ∧ 1 ≤ q ∧ q < 2147483648)) :
    Calls Tryz.prog 25 #[.agg #[.string s, .int .i64 i, .int .i64 q]] w fun e w' => e = .returned (.tuple #[.string ⟨#[]⟩, .int .i64 1]) ∧ Below w.heap.size w w' := by
  have HC := Lib.hid (fun w' => bcheck_arg s i q w' h hb)
  clear h hb
  have qa := alloc_cells
  have qf := alloc_frozens
  go_enter Tryz.func25, Tryz.ntmps25
  go_wp2_with fail
  refine (HC.out _).mono ?_
  rintro e w1 ⟨rfl, hb1⟩
  have z1 := hb1.size
  have c1 := Below.cells hb1
  have f1 := Below.frozens hb1
  try simp only [World.size_alloc, World.size_setCell, World.size_drew] at z1 c1 f1
  go_wp2_with fail
  go_ret2
  exact ⟨rfl, (by repeat (first | (with_reducible exact Below.refl _ _) | ((with_reducible refine Below.alloc ?_ ?_ _); rotate_left; (next => ((try dsimp only); (try simp only [World.size_alloc, World.size_setCell, World.size_drew]); omega))) | ((with_reducible refine Below.setCell ?_ ?_ _); rotate_left; (next => ((try dsimp only); (try simp only [World.size_alloc, World.size_setCell, World.size_drew]); omega))) | (with_reducible refine Below.drew ?_) | ((with_reducible refine Below.trans ?_ (Below.mono hb1 ?_)); rotate_left; (next => ((try dsimp only); (try simp only [World.size_alloc, World.size_setCell, World.size_drew]); omega)))))⟩
/-- What is no beat is not written. -/
theorem encode_bad (s : ByteArray) (i q : Int) (hm : s.size ≤ 9223372036854775807) (h : ¬ (IdOK (byts s) ∧ (0 ≤ i ∧ i < 2147483648) ∧ 1 ≤ q ∧ q < 2147483648)) :
    ∃ k : Int, (k = 1 ∨ k = 3) ∧ ∀ w, Calls Tryz.prog 25 #[.agg #[.string s, .int .i64 i, .int .i64 q]] w fun e w' => e = .returned (.tuple #[.string ⟨#[]⟩, .int .i64 k]) ∧ Below w.heap.size w w' := by
  by_cases c : IdOK (byts s)
  · exact ⟨1, .inl rfl, fun w => encode_arg s i q w c (fun h' => h ⟨c, h'⟩)⟩
  · exact ⟨3, .inr rfl, fun w => encode_form s i q w hm c⟩
end Go.Proofs.YtpomdnglknbanaaGreat
