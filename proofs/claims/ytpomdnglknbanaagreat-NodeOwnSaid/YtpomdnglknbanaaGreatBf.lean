import Derived.Test.YtpomdnglknbanaaGreatBe
import Derived.Test.YtpomdnglknbanaaGreatFl
set_option linter.unusedSimpArgs false
set_option linter.unusedVariables false
namespace Go.Proofs.YtpomdnglknbanaaGreat
open Go.RowKit
theorem mkB_app (a b : List Nat) : mkB a ++ mkB b = mkB (a ++ b) := by
  apply ByteArray.ext
  rw [ByteArray.data_append]
  simp [mkB]
theorem str_add {x y z : ByteArray} (h : x.size + y.size ≤ 1000) (e : x ++ y = z) : Op.stringOp .add x y = pure (.string z) := by
  subst e
  unfold Op.stringOp
  rw [if_neg (by simp only [IntKind.max, IntKind.bits, IntKind.signed]; omega)]
set_option maxHeartbeats 4000000 in
set_option maxRecDepth 100000 in
theorem plain_ok (s : ByteArray) (i q : Nat) (w : World) (h : IdOK (byts s)) (hi : i < 4294967296) (hq : q < 4294967296) :
    Calls Tryz.prog 46 #[.agg #[.string s, .int .i64 i, .int .i64 q]] w fun e w' => e = .returned (.string (mkB (plainL (byts s) i q))) ∧ Below w.heap.size w w' := by
  obtain ⟨h1, h2, h3⟩ := h
  have e0 : mkB (plainL (byts s) i q) = ByteArray.mk #[72] ++ mkB [s.size] ++ s ++ mkB (fourL i) ++ mkB (fourL q) := by
    unfold plainL
    rw [← mkB_app, ← mkB_app, ← mkB_app, mkB_byts, byts_len, show [72, s.size] = [72] ++ [s.size] from rfl, ← mkB_app]
    rfl
  rw [byts_len] at h1 h2
  have HF := Lib.hid (fun n w' (hn : n < 4294967296) => four_ok n w' hn)
  have HE := Lib.hid e0
  have hw8 : IntKind.u8.wrap (s.size : Int) = s.size := IntWalk.u8_in _ (by omega)
  have z0 : (mkB [s.size]).size = 1 := mkB_size _
  have z1 : (mkB (fourL i)).size = 4 := mkB_size _
  have z2 : (mkB (fourL q)).size = 4 := mkB_size _
  obtain ⟨T, hT⟩ : ∃ T, mkB [s.size] = T := ⟨_, rfl⟩
  obtain ⟨U, hU⟩ : ∃ T, mkB (fourL i) = T := ⟨_, rfl⟩
  obtain ⟨V, hV⟩ : ∃ T, mkB (fourL q) = T := ⟨_, rfl⟩
  rw [hT] at e0 z0
  rw [hU] at e0 z1
  rw [hV] at e0 z2
  have hcv : ∀ (w' : World) (b : Nat), w'.cell? ⟨b, 0, none⟩ = some (.int .u8 s.size) → Sem.run Tryz.prog (convert 127 9 (.slice (some ⟨b, 0, none⟩) 1 1)) w' = .ok (.string T) w' := fun w' b hc => by
    rw [← hT]
    refine run_text w' (n := 1) (c := 1) (l := [s.size]) (fun x hx => by rw [List.mem_singleton.1 hx]; omega) rfl (fun j hj => ?_)
    obtain rfl : j = 0 := by omega
    exact hc
  have H1 := Lib.hid (fun w' => hU ▸ four_ok i w' hi)
  have H2 := Lib.hid (fun w' => hV ▸ four_ok q w' hq)
  obtain ⟨A1, a1⟩ : ∃ z, ByteArray.mk #[72] ++ T = z := ⟨_, rfl⟩
  have s1 : A1.size = 2 := by rw [← a1, ByteArray.size_append, z0]; rfl
  obtain ⟨A2, a2⟩ : ∃ z, A1 ++ s = z := ⟨_, rfl⟩
  have s2 : A2.size = 2 + s.size := by rw [← a2, ByteArray.size_append, s1]
  obtain ⟨A3, a3⟩ : ∃ z, A2 ++ U = z := ⟨_, rfl⟩
  have s3 : A3.size = 2 + s.size + 4 := by rw [← a3, ByteArray.size_append, s2, z1]
  obtain ⟨A4, a4⟩ : ∃ z, A3 ++ V = z := ⟨_, rfl⟩
  have p1 := str_add (show (ByteArray.mk #[72]).size + T.size ≤ 1000 by rw [z0]; decide) a1
  have p2 := str_add (by omega) a2
  have p3 := str_add (by omega) a3
  have p4 := str_add (by omega) a4
  rw [e0, a1, a2, a3, a4]
  clear hT hU hV e0 a1 a2 a3 a4 s1 s2 s3 z0 z1 z2 HE HF
  have qa := alloc_cells
  have qf := alloc_frozens
  clear h3
  go_enter Tryz.func46, Tryz.ntmps46
  go_wp2_with fail
  refine wp_region_flow true (fun k => ([[], [], [], [], [4], [4]] : List (List Nat)).getD k []) (by kernel_rfl) (by kernel_rfl) ?_
  repeat (first | (refine flow_skip (fun _ => rfl) ?_; (try simp only [Act.put, List.setIfInBounds_toArray, List.set_cons_zero, List.set_cons_succ])) | (refine flow_mild (fun _ => rfl) (fun K hK => ?_); apply Exists.intro; refine ⟨fun B w2 h2 => ?_, ?_, ?_, ?_⟩; (next => (have h2' := Below.undrew h2.below; have g1 := Below.cells h2'; have g2 := Below.frozens h2'; (try simp only [World.size_alloc, World.size_setCell] at g1 g2); (try (obtain ⟨ql4, qc4, qf4, qh4, qz4⟩ := StF.cellsB h2 4 rfl rfl; (try simp only [World.size_alloc, World.size_setCell, World.size_drew] at ql4))); (try (have kq := hcv _ _ (qc4 0))); clear h2 h2'; unfold mildAt; first | (go_simp; simp only [mildUpon, true_and]; first | with_reducible exact H1.out _ | with_reducible exact H2.out _) | (simp [mildUpon, go_sem, ↓IntWalk.iteOmega, *]; done) | (simp [mildUpon, go_sem, ↓IntWalk.iteOmega, *]; (try go_ints); rfl))); (next => (first | (exact fun _ _ _ => rfl) | (intro B1 B2 hB; (try dsimp only); simp [hB]; done))); (next => (first | (intro k' hk'; cases hk'; done) | (intro k' hk'; simp at hk'; (try subst hk'); (try simp [Ress.put]); done) | (intro k' hk'; simp at hk'; (try rcases hk' with rfl | rfl); all_goals (simp [Ress.put])))); (go_simp; refine hK _ ?_; clear hK K)) | (refine flow_ptr (fun _ => rfl) (fun K hK => ?_); apply Exists.intro; apply Exists.intro; refine ⟨fun B w2 h2 => ?_, ?_, ?_, ?_⟩; (next => (have h2' := Below.undrew h2.below; have g1 := Below.cells h2'; have g2 := Below.frozens h2'; (try simp only [World.size_alloc, World.size_setCell] at g1 g2); (try (obtain ⟨ql4, qc4, qf4, qh4, qz4⟩ := StF.cellsB h2 4 rfl rfl; (try simp only [World.size_alloc, World.size_setCell, World.size_drew] at ql4))); (try (have kq := hcv _ _ (qc4 0))); clear h2 h2'; simp [go_sem, ptrOf, ↓IntWalk.iteOmega, *]; first | exact ⟨rfl, rfl⟩ | rfl)); (next => simp); (next => first | rfl | simp [Ress.put]); ((try simp only [Ress.put_def]); go_simp; refine hK _ _ ?_; clear hK K)) | (refine flow_slice (fun _ => rfl) (fun K hK => ?_); apply Exists.intro; apply Exists.intro; apply Exists.intro; refine ⟨fun B w2 h2 => ?_, ?_, ?_, ?_⟩; (next => (have h2' := Below.undrew h2.below; have g1 := Below.cells h2'; have g2 := Below.frozens h2'; (try simp only [World.size_alloc, World.size_setCell] at g1 g2); (try (obtain ⟨ql4, qc4, qf4, qh4, qz4⟩ := StF.cellsB h2 4 rfl rfl; (try simp only [World.size_alloc, World.size_setCell, World.size_drew] at ql4))); (try (have kq := hcv _ _ (qc4 0))); clear h2 h2'; simp [go_sem, ↓IntWalk.iteOmega, *]; first | exact ⟨rfl, rfl⟩ | rfl)); (next => simp); (next => first | rfl | simp [Ress.put]); ((try simp only [Ress.put_def]); go_simp; refine hK _ _ ?_; clear hK K)))
  refine flow_nil ?_
  intro B w1 h1
  dsimp only
  have hb1 := Below.undrew h1.below
  obtain ⟨lo1_4, up1_4, e1_4, fz1_4⟩ := StA.cells h1 4 rfl
  try dsimp only at e1_4
  generalize (B 4).1 = b1_4 at *
  have eh1_4 := e1_4
  have fh1_4 := fz1_4
  change ∀ o, hcell _ _ o = _ at eh1_4
  change ∀ o, hfroz _ _ o = _ at fh1_4
  clear h1
  clear B
  try simp only [World.size_alloc, World.size_setCell, World.size_drew] at lo1_4
  have z1 := hb1.size
  have c1 := Below.cells hb1
  have f1 := Below.frozens hb1
  try simp only [World.size_alloc, World.size_setCell, World.size_drew] at z1 c1 f1
  go_wp2_with fail
  go_ret
  exact ⟨rfl, (by repeat (first | (with_reducible exact Below.refl _ _) | ((with_reducible refine Below.alloc ?_ ?_ _); rotate_left; (next => ((try dsimp only); (try simp only [World.size_alloc, World.size_setCell, World.size_drew]); omega))) | ((with_reducible refine Below.setCell ?_ ?_ _); rotate_left; (next => ((try dsimp only); (try simp only [World.size_alloc, World.size_setCell, World.size_drew]); omega))) | (with_reducible refine Below.drew ?_) | ((with_reducible refine Below.trans ?_ (Below.mono hb1 ?_)); rotate_left; (next => ((try dsimp only); (try simp only [World.size_alloc, World.size_setCell, World.size_drew]); omega)))))⟩
end Go.Proofs.YtpomdnglknbanaaGreat
