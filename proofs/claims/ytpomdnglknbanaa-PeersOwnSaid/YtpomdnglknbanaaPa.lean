/-
  peers.Add at whatever it is handed.
-/
import Derived.Test.YtpomdnglknbanaaSp
set_option linter.unusedSimpArgs false
set_option linter.unusedVariables false
namespace Go.Proofs.Ytpomdnglknbanaa
open Go.RowKit
/-- What Add asks. -/
def AddOK (L : List Peer) (id : ByteArray) (size first now : Int) : Prop := TabOK L ∧ IdOK (byts id) ∧ (1 ≤ size ∧ size ≤ 64) ∧ (0 ≤ first ∧ first ≤ 16777216) ∧ (0 ≤ now ∧ now ≤ 1073741824) ∧ has L id = false ∧ L.length < 6
theorem padd_not (A : Option Addr) (n c : Nat) (L : List Peer) (f : Nat → Prop) (id : ByteArray) (size first now : Int) (w : World) (hr : PRow w A n L f) (hn : n ≤ 9223372036854775807) (hz : ∀ k, k < n → (L.getD k default).id.size ≤ 9223372036854775807) (hm : id.size ≤ 9223372036854775807)
    (h : ¬ AddOK L id size first now) :
    Calls Try.prog 38 #[.slice A n c, .string id, .int .i64 size, .int .i64 first, .int .i64 now] w fun e w' => (∃ k : Int, (k != 0) = true ∧ e = .returned (.tuple #[.slice none 0 0, .int .i64 k])) ∧ Below w.heap.size w w' := by
  by_cases h1 : TabOK L
  · by_cases h2 : IdOK (byts id)
    · by_cases h3 : (1 ≤ size ∧ size ≤ 64) ∧ (0 ≤ first ∧ first ≤ 16777216) ∧ (0 ≤ now ∧ now ≤ 1073741824)
      · cases h4 : has L id with
        | true => exact (padd_there A n c L f id size first now w hr h1 h2 h3.1 h3.2.1 h3.2.2 true h4 (.inl rfl)).mono fun e w' ⟨h5, h6⟩ => ⟨⟨5, rfl, h5⟩, h6⟩
        | false =>
          have h6 : L.length = 6 := by
            have := h1.len
            rcases Nat.lt_or_ge L.length 6 with c | c
            · exact absurd ⟨h1, h2, h3.1, h3.2.1, h3.2.2, h4, c⟩ h
            · omega
          exact (padd_there A n c L f id size first now w hr h1 h2 h3.1 h3.2.1 h3.2.2 false h4 (.inr h6)).mono fun e w' ⟨h5, h6⟩ => ⟨⟨10, rfl, h5⟩, h6⟩
      · exact (padd_arg A n c L f id size first now w hr h1 h2 h3).mono fun e w' ⟨h5, h6⟩ => ⟨⟨1, rfl, h5⟩, h6⟩
    · exact (padd_form A n c L f id size first now w hr h1 hm h2).mono fun e w' ⟨h5, h6⟩ => ⟨⟨3, rfl, h5⟩, h6⟩
  · exact padd_tab A n c L f id size first now w hr hn hz h1
theorem padd_yes (A : Option Addr) (n c : Nat) (L : List Peer) (f : Nat → Prop) (id : ByteArray) (size first now : Int) (w : World) (hr : PRow w A n L f) (h : AddOK L id size first now) :
    Calls Try.prog 38 #[.slice A n c, .string id, .int .i64 size, .int .i64 first, .int .i64 now] w fun e w' => ∃ A' c', e = .returned (.tuple #[.slice A' (n + 1) c', .int .i64 0]) ∧ Tab w' w.heap.size A' (n + 1) c' (addS (newP id size first now) L) ∧ Below w.heap.size w w' :=
  padd_ok A n c L f id size first now w hr h.1 h.2.1 h.2.2.1 h.2.2.2.1 h.2.2.2.2.1 h.2.2.2.2.2.1 h.2.2.2.2.2.2
theorem AddOK.tab {L : List Peer} {id : ByteArray} {size first now : Int} (h : AddOK L id size first now) : TabOK (addS (newP id size first now) L) :=
  addS_tab h.1 (newP_ok h.2.1 h.2.2.1 h.2.2.2.1 h.2.2.2.2.1) h.2.2.2.2.2.2 h.2.2.2.2.2.1
theorem Tab.sizes {L : List Peer} (h : TabOK L) : ∀ k, k < L.length → (L.getD k default).id.size ≤ 9223372036854775807 := fun k hk => by
  have := (tab_good h k hk).1.id.2.1
  rw [byts_len] at this
  omega
end Go.Proofs.Ytpomdnglknbanaa
