/-
  Peers in plain Lean: the order of names, tables that may be, where a name stands, who is added.
-/
import Derived.Test.YtpomdnglknbanaaGreatBp
import Derived.Test.YtpomdnglknbanaaGreatGate
import Derived.Test.YtpomdnglknbanaaGreatBu
set_option linter.unusedSimpArgs false
set_option linter.unusedVariables false
namespace Go.Proofs.YtpomdnglknbanaaGreat
open Go.RowKit

/-- A name stands ahead of another. -/
def sl (a b : ByteArray) : Bool := Op.bytesLess a.toList b.toList
theorem bless_irr : ∀ l : List UInt8, Op.bytesLess l l = false
  | [] => rfl
  | a :: l => by
    have := bless_irr l
    simp [Op.bytesLess, this]
theorem bless_trans : ∀ a b c : List UInt8, Op.bytesLess a b = true → Op.bytesLess b c = true → Op.bytesLess a c = true
  | [], _, [], _, h => by cases ‹List UInt8› <;> simp [Op.bytesLess] at h
  | [], _, _ :: _, _, _ => rfl
  | _ :: _, [], _, h, _ => by simp [Op.bytesLess] at h
  | _ :: _, _ :: _, [], _, h => by simp [Op.bytesLess] at h
  | x :: a, y :: b, z :: c, h, k => by
    have ih := bless_trans a b c
    simp only [Op.bytesLess, Bool.or_eq_true, decide_eq_true_eq, Bool.and_eq_true, beq_iff_eq] at h k ⊢
    rcases h with h | ⟨rfl, h⟩
    · rcases k with k | ⟨rfl, k⟩
      · exact .inl (UInt8.lt_trans h k)
      · exact .inl h
    · rcases k with k | ⟨rfl, k⟩
      · exact .inl k
      · exact .inr ⟨rfl, ih h k⟩
theorem u8_tri (x y : UInt8) : x < y ∨ x = y ∨ y < x := by
  rcases Nat.lt_trichotomy x.toNat y.toNat with h | h | h
  · exact .inl (UInt8.lt_iff_toNat_lt.2 h)
  · exact .inr (.inl (UInt8.toNat_inj.1 h))
  · exact .inr (.inr (UInt8.lt_iff_toNat_lt.2 h))
theorem bless_tri : ∀ a b : List UInt8, Op.bytesLess a b = true ∨ a = b ∨ Op.bytesLess b a = true
  | [], [] => .inr (.inl rfl)
  | [], _ :: _ => .inl rfl
  | _ :: _, [] => .inr (.inr rfl)
  | x :: a, y :: b => by
    have ih := bless_tri a b
    simp only [Op.bytesLess, Bool.or_eq_true, decide_eq_true_eq, Bool.and_eq_true, beq_iff_eq]
    rcases u8_tri x y with h | rfl | h
    · exact .inl (.inl h)
    · rcases ih with h | rfl | h
      · exact .inl (.inr ⟨rfl, h⟩)
      · exact .inr (.inl rfl)
      · exact .inr (.inr (.inr ⟨rfl, h⟩))
    · exact .inr (.inr (.inl h))
theorem sl_irr (a : ByteArray) : sl a a = false := bless_irr _
theorem sl_trans {a b c : ByteArray} (h : sl a b = true) (k : sl b c = true) : sl a c = true := bless_trans _ _ _ h k
theorem toList_inj {a b : ByteArray} (h : a.toList = b.toList) : a = b := by
  rw [ByteArray.toList_eq, ByteArray.toList_eq] at h
  exact ByteArray.ext (Array.toList_inj.1 h)
theorem sl_tri (a b : ByteArray) : sl a b = true ∨ a = b ∨ sl b a = true := by
  rcases bless_tri a.toList b.toList with h | h | h
  · exact .inl h
  · exact .inr (.inl (toList_inj h))
  · exact .inr (.inr h)
theorem sl_asymm {a b : ByteArray} (h : sl a b = true) : sl b a = false := by
  cases k : sl b a with
  | false => rfl
  | true => have := sl_trans h k; rw [sl_irr] at this; cases this
theorem sl_ne {a b : ByteArray} (h : sl a b = true) : a ≠ b := fun e => by rw [e, sl_irr] at h; cases h

/-- Who is watched. -/
structure Peer where
  id : ByteArray
  inc : Int
  seq : Int
  drops : Int
  cap : Int
  vals : List Int
  last : Int
instance : Inhabited Peer := ⟨⟨⟨#[]⟩, 0, 0, 0, 0, [], 0⟩⟩
def WinOK (z : Int) (l : List Int) : Prop := 1 ≤ z ∧ z ≤ 64 ∧ (l.length : Int) ≤ z ∧ Btw 0 16777216 l
structure PeerOK (p : Peer) : Prop where
  id : IdOK (byts p.id)
  gate : GateOK p.inc p.seq p.drops
  win : WinOK p.cap p.vals
  last : 0 ≤ p.last ∧ p.last ≤ 1073741824
/-- A table that may be. -/
structure TabOK (L : List Peer) : Prop where
  len : L.length ≤ 6
  each : ∀ p ∈ L, PeerOK p
  order : L.Pairwise (fun p q => sl p.id q.id = true)
/-- The first k peers are in order and may be. -/
theorem TabOK.cons {p : Peer} {L : List Peer} (h : TabOK (p :: L)) : TabOK L := ⟨by have := h.len; simp at this; omega, fun q hq => h.each q (List.mem_cons_of_mem _ hq), (List.pairwise_cons.1 h.order).2⟩
/-- Where a name belongs. -/
def pos (L : List Peer) (id : ByteArray) : Nat := (L.takeWhile fun q => sl q.id id).length
theorem pos_le (L : List Peer) (id : ByteArray) : pos L id ≤ L.length := (List.takeWhile_sublist _).length_le
theorem pos_lo {L : List Peer} {id : ByteArray} {k : Nat} (h : k < pos L id) : sl (L.getD k default).id id = true := by
  unfold pos at h
  induction L generalizing k with
  | nil => simp at h
  | cons q L ih =>
    rw [List.takeWhile_cons] at h
    split at h
    · rename_i c
      cases k with
      | zero => simpa using c
      | succ k =>
        have := ih (k := k) (by simp at h; omega)
        simpa using this
    · simp at h
theorem pos_hi {L : List Peer} {id : ByteArray} (hs : L.Pairwise (fun p q => sl p.id q.id = true)) {k : Nat} (h : pos L id ≤ k) (hk : k < L.length) : sl (L.getD k default).id id = false := by
  unfold pos at h
  induction L generalizing k with
  | nil => simp at hk
  | cons q L ih =>
    obtain ⟨h1, h2⟩ := List.pairwise_cons.1 hs
    rw [List.takeWhile_cons] at h
    cases k with
    | zero =>
      split at h
      · simp at h
      · rename_i c; simpa using c
    | succ k =>
      have hk' : k < L.length := by simpa using hk
      split at h
      · have := ih h2 (k := k) (by simp at h; omega) hk'
        simpa using this
      · rename_i c
        have hm : L.getD k default ∈ L := by
          rw [List.getD_eq_getElem?_getD, List.getElem?_eq_getElem hk']; exact List.getElem_mem _
        cases e : sl (L.getD k default).id id with
        | false => simpa using e
        | true => exact absurd (sl_trans (h1 _ hm) e) c
/-- Is the name there? -/
def has (L : List Peer) (id : ByteArray) : Bool := decide (pos L id < L.length) && decide ((L.getD (pos L id) default).id = id)
theorem has_iff {L : List Peer} (hs : L.Pairwise (fun p q => sl p.id q.id = true)) (id : ByteArray) : has L id = true ↔ ∃ p ∈ L, p.id = id := by
  unfold has
  simp only [Bool.and_eq_true, decide_eq_true_eq]
  constructor
  · rintro ⟨h1, h2⟩
    exact ⟨_, by rw [List.getD_eq_getElem?_getD, List.getElem?_eq_getElem h1]; exact List.getElem_mem _, h2⟩
  · rintro ⟨p, hp, e⟩
    obtain ⟨k, hk, rfl⟩ := List.getElem_of_mem hp
    have hg : ∀ j (hj : j < L.length), L.getD j default = L[j] := fun j hj => by simp [List.getD_eq_getElem?_getD, hj]
    have h1 : pos L id ≤ k := by
      rcases Nat.lt_or_ge k (pos L id) with c | c
      · have := pos_lo c
        rw [hg k hk, e, sl_irr] at this; cases this
      · exact c
    rcases Nat.eq_or_lt_of_le h1 with c | c
    · exact ⟨by omega, by rw [c, hg _ hk]; exact e⟩
    · have h3 : pos L id < L.length := by omega
      have := List.pairwise_iff_getElem.1 hs _ _ h3 hk c
      have h4 := pos_hi hs (Nat.le_refl _) h3
      rw [hg _ h3] at h4
      rw [e] at this
      rw [this] at h4
      cases h4
/-- One more, where it belongs. -/
def addS (p : Peer) : List Peer → List Peer
  | [] => [p]
  | q :: r => if sl q.id p.id then q :: addS p r else p :: q :: r
theorem addS_pos (p : Peer) : ∀ L, addS p L = L.take (pos L p.id) ++ p :: L.drop (pos L p.id)
  | [] => rfl
  | q :: r => by
    unfold addS pos
    rw [List.takeWhile_cons]
    split
    · have := addS_pos p r
      unfold pos at this
      simp [this]
    · simp
theorem addS_len (p : Peer) : ∀ L, (addS p L).length = L.length + 1
  | [] => rfl
  | q :: r => by
    unfold addS
    split
    · simp [addS_len p r]
    · simp
theorem addS_mem {p x : Peer} : ∀ {L}, x ∈ addS p L ↔ x = p ∨ x ∈ L
  | [] => by simp [addS]
  | q :: r => by
    unfold addS
    split
    · rw [List.mem_cons, addS_mem (L := r), List.mem_cons]
      constructor
      · rintro (h | h | h)
        · exact .inr (.inl h)
        · exact .inl h
        · exact .inr (.inr h)
      · rintro (h | h | h)
        · exact .inr (.inl h)
        · exact .inl h
        · exact .inr (.inr h)
    · simp
theorem addS_order {p : Peer} : ∀ {L : List Peer}, L.Pairwise (fun p q => sl p.id q.id = true) → (∀ q ∈ L, q.id ≠ p.id) → (addS p L).Pairwise (fun p q => sl p.id q.id = true)
  | [], _, _ => by simp [addS]
  | q :: r, h, hn => by
    obtain ⟨h1, h2⟩ := List.pairwise_cons.1 h
    unfold addS
    split
    · rename_i c
      refine List.pairwise_cons.2 ⟨fun x hx => ?_, addS_order h2 (fun x hx => hn x (List.mem_cons_of_mem _ hx))⟩
      rcases addS_mem.1 hx with rfl | hx
      · exact c
      · exact h1 x hx
    · rename_i c
      have hpq : sl p.id q.id = true := by
        rcases sl_tri q.id p.id with e | e | e
        · exact absurd e c
        · exact absurd e (hn q (by simp))
        · exact e
      refine List.pairwise_cons.2 ⟨fun x hx => ?_, h⟩
      rcases List.mem_cons.1 hx with rfl | hx
      · exact hpq
      · exact sl_trans hpq (h1 x hx)
theorem addS_comm (a b : Peer) (hab : a.id ≠ b.id) : ∀ L, addS a (addS b L) = addS b (addS a L)
  | [] => by
    rcases sl_tri a.id b.id with h | h | h
    · simp [addS, h, sl_asymm h]
    · exact absurd h hab
    · simp [addS, h, sl_asymm h]
  | q :: r => by
    by_cases h1 : sl q.id a.id = true
    · by_cases h2 : sl q.id b.id = true
      · simp [addS, h1, h2, addS_comm a b hab r]
      · have h3 : sl b.id a.id = true := by
          rcases sl_tri q.id b.id with e | e | e
          · exact absurd e h2
          · rw [← e]; exact h1
          · exact sl_trans e h1
        simp [addS, h1, h2, h3]
    · by_cases h2 : sl q.id b.id = true
      · have h3 : sl a.id b.id = true := by
          rcases sl_tri q.id a.id with e | e | e
          · exact absurd e h1
          · rw [← e]; exact h2
          · exact sl_trans e h2
        simp [addS, h1, h2, h3]
      · rcases sl_tri a.id b.id with h | h | h
        · simp [addS, h1, h2, h, sl_asymm h]
        · exact absurd h hab
        · simp [addS, h1, h2, h, sl_asymm h]
theorem addS_tab {p : Peer} {L : List Peer} (h : TabOK L) (hp : PeerOK p) (hl : L.length < 6) (hn : has L p.id = false) : TabOK (addS p L) := by
  refine ⟨by rw [addS_len]; omega, fun q hq => ?_, addS_order h.order (fun q hq e => ?_)⟩
  · rcases addS_mem.1 hq with rfl | hq
    · exact hp
    · exact h.each q hq
  · rw [(has_iff h.order p.id).2 ⟨q, hq, e⟩] at hn; cases hn
theorem addS_at (p : Peer) : ∀ L, pos (addS p L) p.id = pos L p.id
  | [] => by simp [addS, pos, sl_irr]
  | q :: r => by
    unfold addS
    by_cases h : sl q.id p.id = true
    · have := addS_at p r
      unfold pos at this ⊢
      simp [h, this]
    · unfold pos
      simp [h, sl_irr]
theorem addS_get (p : Peer) (L : List Peer) : (addS p L).getD (pos L p.id) default = p := by
  rw [addS_pos, List.getD_eq_getElem?_getD, List.getElem?_append_right (by rw [List.length_take]; omega)]
  have := pos_le L p.id
  simp [List.length_take, Nat.min_eq_left this]
theorem addS_has (p : Peer) (L : List Peer) : has (addS p L) p.id = true := by
  unfold has
  have := pos_le L p.id
  rw [addS_at, addS_get, addS_len]
  simp; omega
/-- One less. -/
def dropS (L : List Peer) (id : ByteArray) : List Peer := L.take (pos L id) ++ L.drop (pos L id + 1)
theorem drop_add (p : Peer) (L : List Peer) : dropS (addS p L) p.id = L := by
  unfold dropS
  have hl := pos_le L p.id
  rw [addS_at, addS_pos]
  have hlen : (L.take (pos L p.id)).length = pos L p.id := by rw [List.length_take]; omega
  rw [List.take_append_of_le_length (by omega), List.take_of_length_le (by omega), List.drop_append, hlen, List.drop_of_length_le (by omega)]
  simp
/-- What a beat does to a peer. -/
def newer (p : Peer) (i s : Int) : Bool := decide (p.inc < i) || (decide (i = p.inc) && decide (p.seq < s))
def heardP (p : Peer) (i s now : Int) : Peer :=
  if newer p i s then { p with inc := i, seq := s, vals := (if (p.vals.length : Int) = p.cap then p.vals.drop 1 else p.vals) ++ [min (now - p.last) 16777216], last := now }
  else { p with drops := if p.drops = 1073741824 then p.drops else p.drops + 1 }
def hearS (L : List Peer) (id : ByteArray) (i s now : Int) : List Peer := L.set (pos L id) (heardP (L.getD (pos L id) default) i s now)
end Go.Proofs.YtpomdnglknbanaaGreat
