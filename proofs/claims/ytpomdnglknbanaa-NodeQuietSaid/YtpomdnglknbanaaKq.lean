/-
  (*Node).Hear of whatever comes; (*Node).Drops.
-/
import Derived.Test.YtpomdnglknbanaaKt
set_option linter.unusedSimpArgs false
set_option linter.unusedVariables false
namespace Go.Proofs.Ytpomdnglknbanaa
open Go Go.RowKit
def zp (p : Peer) : Peer := { p with drops := 0 }
theorem NOK.dropped {s : NSt} (h : NOK s) : NOK { s with drops := more s.drops } := by
  have h2 := more_bd h.drops.1
  exact ⟨h.id, h.inc, h.every, h.cap, h.least, h.now, h.seq, ⟨h2.1, h2.2.1⟩, h.tab, h.wins, h.subs⟩
theorem drops_ok {b : Nat} {id : ByteArray} {inc every cap least now seq drops : Int} {P S : Value} (w : World) (h : NodeAt w b id inc every cap least now seq drops P S) :
    Calls Try.prog 66 #[.pointer (some ⟨b, 0, none⟩)] w fun e w' => e = .returned (.int .i64 drops) ∧ w = w' := by
  obtain ⟨_, _, _, _, _, _, _, k7, _, _⟩ := h.cells
  clear h
  go_enter Try.func66, Try.ntmps66
  go_wp2_with fail
  go_ret
  exact ⟨rfl, rfl⟩
def QuietR (s t : NSt) : Prop := t.now = s.now ∧ t.seq = s.seq ∧ t.subs = s.subs ∧ t.drops = more s.drops ∧ t.peers.length = s.peers.length ∧ ∀ k, k < s.peers.length → zp (t.peers.getD k default) = zp (s.peers.getD k default)
theorem quiet_ok (b : Nat) (s : NSt) (f : Nat → Prop) (x : ByteArray) (w : World) (h : NRep w b s f) (ok : NOK s) (hsz : x.size ≤ maxLen) :
    Calls Try.prog 31 #[.pointer (some ⟨b, 0, none⟩), .string x] w fun e w' => ∃ A' nn c' e0 t g, e = .returned (.tuple #[.slice A' nn c', .int .i64 e0]) ∧ NRep w' b t g ∧ NOK t ∧ (∀ y, g y → f y ∨ w.heap.size ≤ y) ∧ Kept f w w' ∧
      ((e0 = 0 ∧ t.drops = s.drops) ∨ ((e0 == 0) = false ∧ nn = 0 ∧ QuietR s t)) := by
  rcases decode_cases x hsz with ⟨n, hn, _, hd⟩ | ⟨id, i, q, hb, rfl⟩
  · refine (nhear_text b s f x n w h ok hn hd).mono ?_
    rintro e w' ⟨rfl, rep, kept⟩
    exact ⟨none, 0, 0, n, _, _, rfl, rep, ok.dropped, fun y hy => .inl hy, kept, .inr ⟨by simp; omega, rfl, rfl, rfl, rfl, rfl, rfl, fun k _ => rfl⟩⟩
  · cases hh : has s.peers id with
    | false =>
      refine (nhear_none b s f id i q w h ok hb hh).mono ?_
      rintro e w' ⟨⟨k, hk, rfl⟩, rep, kept⟩
      exact ⟨none, 0, 0, k, _, _, rfl, rep, ok.dropped, fun y hy => .inl hy, kept, .inr ⟨by simpa using hk, rfl, rfl, rfl, rfl, rfl, rfl, fun k _ => rfl⟩⟩
    | true =>
      have hho := ok.hears hb hh
      cases hn : newer (s.peers.getD (pos s.peers id) default) i q with
      | true =>
        refine (nhear_new b s f id i q w h ok hb hh hn).mono ?_
        rintro e w' ⟨t, A', c', m, rfl, rfl, _, rep, _, _, kept⟩
        exact ⟨A', _, c', 0, _, _, rfl, rep, (ok.hear hho).tell, fun y hy => hy.imp (fun h => h) (fun h => h.1), kept, .inl ⟨rfl, rfl⟩⟩
      | false =>
        refine (nhear_old b s f id i q w h ok hb hh hn).mono ?_
        rintro e w' ⟨rfl, ⟨m, rep⟩, kept⟩
        refine ⟨none, 0, 0, 5, _, _, rfl, rep, (ok.hear hho).dropped, fun y hy => hy.imp (fun h => h) (fun h => h.1), kept, .inr ⟨by decide, rfl, rfl, rfl, rfl, rfl, ?_, fun k hk => ?_⟩⟩
        · show (hearS s.peers id i q s.now).length = _
          exact len_ids (hearS_ids ..)
        · show zp ((hearS s.peers id i q s.now).getD k default) = _
          rw [hearS_get hh]
          split
          · rename_i e
            unfold heardP
            rw [if_neg (by rw [e, hn]; simp)]
            rfl
          · rfl
end Go.Proofs.Ytpomdnglknbanaa
