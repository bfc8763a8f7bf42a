/-
  What a node is asked, in plain Lean: the state behind it, what is told, and what stays so.
  Tick, Hear, Join, Part by what they do.
  hwkeep's nodeBegun and one.
  hwkeep.asked.
  A row of notes read; rows of rows that came in, for the node's laws.
-/
import Derived.Test.YtpomdnglknbanaaGreatNn
import Derived.Test.YtpomdnglknbanaaGreatNm
import Derived.Test.YtpomdnglknbanaaGreatRr
set_option linter.unusedSimpArgs false
set_option linter.unusedVariables false
namespace Go.Proofs.YtpomdnglknbanaaGreat
open Go Go.RowKit

def nA : ByteArray := ⟨#[97]⟩
def nB : ByteArray := ⟨#[98]⟩
def nC : ByteArray := ⟨#[99]⟩
def nD : ByteArray := ⟨#[100]⟩
def nE : ByteArray := ⟨#[101]⟩
def nmK (k : Int) : ByteArray := if k = 0 then nB else if k = 1 then nC else if k = 2 then nD else nE
theorem nA_ok : IdOK (byts nA) := ⟨by decide, by decide, by decide⟩
theorem nB_ok : IdOK (byts nB) := ⟨by decide, by decide, by decide⟩
theorem nC_ok : IdOK (byts nC) := ⟨by decide, by decide, by decide⟩
theorem nD_ok : IdOK (byts nD) := ⟨by decide, by decide, by decide⟩
theorem nE_ok : IdOK (byts nE) := ⟨by decide, by decide, by decide⟩
theorem nmK_ok (k : Int) : IdOK (byts (nmK k)) := by
  unfold nmK
  split
  · exact nB_ok
  · split
    · exact nC_ok
    · split
      · exact nD_ok
      · exact nE_ok

def tickS (s : NSt) (g : Int) : NSt := { s with now := s.now + g, seq := (s.now + g) / s.every }
def tellS (s : NSt) : NSt := { s with subs := toldS s }
def dropQ (s : NSt) : NSt := { s with drops := more s.drops }
def hearQ (s : NSt) (id : ByteArray) (q : Int) : NSt := { s with peers := hearS s.peers id 0 q s.now }
def partQ (s : NSt) (k : Nat) : NSt := { s with subs := s.subs.eraseIdx k }
/-- What is done, and what is told. -/
def tickF (s : NSt) (g : Int) : NSt × List Note := (tellS (tickS s g), toldN (tickS s g))
def newB (s : NSt) (id : ByteArray) (q : Int) : Bool := newer (s.peers.getD (pos s.peers id) default) 0 q
def hearF (s : NSt) (id : ByteArray) (q : Int) : NSt × List Note :=
  if has s.peers id = true then
    if newB s id q = true then (tellS (hearQ s id q), toldN (hearQ s id q))
    else (dropQ (hearQ s id q), [])
  else (dropQ s, [])
def joinF (s : NSt) (id : ByteArray) (th : Int) : NSt × List Note :=
  if has s.peers id = true ∧ idxS (hitS id th) s.subs = -1 ∧ s.subs.length < 8 then (tellS (joinS s id th), toldN (joinS s id th))
  else (s, [])
def partF (s : NSt) (id : ByteArray) (th : Int) : NSt × List Note :=
  if 0 ≤ idxS (hitS id th) s.subs then (partQ s (idxS (hitS id th) s.subs).toNat, [])
  else (s, [])
def askF (s : NSt) (a0 : Int) (id : ByteArray) (a1 a2 : Int) : NSt × List Note :=
  if a0 = 0 then tickF s (1 + within a1 60)
  else if a0 = 1 then hearF s id (1 + within a2 30)
  else if a0 = 2 then joinF s id (1 + within a2 12)
  else if a0 = 3 then partF s id (1 + within a2 12)
  else (dropQ s, [])
/-- The same by cases. -/
inductive Ask (s : NSt) (a0 : Int) (id : ByteArray) : NSt → List Note → Prop
  | tick (g : Int) (h : a0 = 0) (hg : 1 ≤ g ∧ g ≤ 60) : Ask s a0 id (tellS (tickS s g)) (toldN (tickS s g))
  | new (q : Int) (h : a0 = 1) (hq : 1 ≤ q ∧ q ≤ 30) (hh : has s.peers id = true) (hn : newer (s.peers.getD (pos s.peers id) default) 0 q = true) : Ask s a0 id (tellS (hearQ s id q)) (toldN (hearQ s id q))
  | old (q : Int) (h : a0 = 1) (hq : 1 ≤ q ∧ q ≤ 30) (hh : has s.peers id = true) (hn : newer (s.peers.getD (pos s.peers id) default) 0 q = false) : Ask s a0 id (dropQ (hearQ s id q)) []
  | drop (h : a0 = 1 ∨ ¬ (a0 = 0 ∨ a0 = 2 ∨ a0 = 3)) : Ask s a0 id (dropQ s) []
  | join (th : Int) (h : a0 = 2) (ht : 1 ≤ th ∧ th ≤ 12) (hh : has s.peers id = true) (hx : idxS (hitS id th) s.subs = -1) (h8 : s.subs.length < 8) : Ask s a0 id (tellS (joinS s id th)) (toldN (joinS s id th))
  | part (k : Nat) (h : a0 = 3) : Ask s a0 id (partQ s k) []
  | same (h : a0 = 2 ∨ a0 = 3) : Ask s a0 id s []
theorem ask_cases (s : NSt) (a0 : Int) (id : ByteArray) (a1 a2 : Int) : Ask s a0 id (askF s a0 id a1 a2).1 (askF s a0 id a1 a2).2 := by
  have b1 := within_bd a1 (n := 60) (by omega)
  have b2 := within_bd a2 (n := 30) (by omega)
  have b3 := within_bd a2 (n := 12) (by omega)
  unfold askF
  split
  · rename_i h; exact .tick _ h (by omega)
  · split
    · rename_i h0 h
      unfold hearF
      split
      · rename_i hh
        split
        · rename_i hn; exact .new _ h (by omega) hh hn
        · rename_i hn; exact .old _ h (by omega) hh (by simpa [newB] using hn)
      · exact .drop (.inl h)
    · split
      · rename_i h0 h1 h
        unfold joinF
        split
        · rename_i hc; exact .join _ h (by omega) hc.1 hc.2.1 hc.2.2
        · exact .same (.inl h)
      · split
        · rename_i h0 h1 h2 h
          unfold partF
          split
          · exact .part _ h
          · exact .same (.inr h)
        · rename_i h0 h1 h2 h3; exact .drop (.inr (by omega))

/-! Levels. -/
theorem lev_none {s : NSt} {id : ByteArray} (h : has s.peers id = false) : levN s id = 0 := by unfold levN; rw [h]; rfl
theorem lev_some {s : NSt} {id : ByteArray} (h : has s.peers id = true) : levN s id = lvP s.least s.now (s.peers.getD (pos s.peers id) default) := by unfold levN; rw [if_pos h]
theorem lev_bd {s : NSt} (ok : NOK s) (id : ByteArray) : 0 ≤ levN s id ∧ levN s id ≤ 126 := by
  cases h : has s.peers id with
  | false => rw [lev_none h]; omega
  | true =>
    rw [lev_some h]
    obtain ⟨h1, h2, h3⟩ := ok.at (has_lt h)
    have hn := ok.now
    have hl := h1.last
    exact lv_bd h2 (by have := h1.win.2.1; have := h1.win.2.2.1; omega) h1.win.2.2.2 ok.least (by omega)
theorem lev_later {s t : NSt} (ok : NOK s) (hp : t.peers = s.peers) (hl : t.least = s.least) (hn : s.now ≤ t.now) (hm : t.now ≤ 1073741824) (id : ByteArray) : levN s id ≤ levN t id := by
  cases h : has s.peers id with
  | false => rw [lev_none h, lev_none (by rw [hp]; exact h)]; omega
  | true =>
    rw [lev_some h, lev_some (by rw [hp]; exact h), hp, hl]
    obtain ⟨h1, h2, h3⟩ := ok.at (has_lt h)
    have hl := h1.last
    exact lv_mono h2 (by have := h1.win.2.1; have := h1.win.2.2.1; omega) h1.win.2.2.2 ok.least (by omega) (by omega) (by omega)
theorem lev_hear_ne {s : NSt} {id x : ByteArray} {q : Int} (hh : has s.peers id = true) (hne : x ≠ id) : levN (hearQ s id q) x = levN s x := by
  have hi := hearS_ids s.peers id 0 q s.now
  cases h : has s.peers x with
  | false => rw [lev_none h, lev_none (show has (hearS s.peers id 0 q s.now) x = false by rw [has_ids hi]; exact h)]
  | true =>
    rw [lev_some h, lev_some (show has (hearS s.peers id 0 q s.now) x = true by rw [has_ids hi]; exact h)]
    show lvP s.least s.now ((hearS s.peers id 0 q s.now).getD (pos (hearS s.peers id 0 q s.now) x) default) = _
    rw [pos_ids hi, hearS_get hh, if_neg]
    intro e
    exact hne (by rw [← has_id h, e, has_id hh])
theorem lev_hear_same {s : NSt} {id : ByteArray} {q : Int} (hh : has s.peers id = true) : levN (hearQ s id q) id = lvP s.least s.now (heardP (s.peers.getD (pos s.peers id) default) 0 q s.now) := by
  have hi := hearS_ids s.peers id 0 q s.now
  rw [lev_some (show has (hearS s.peers id 0 q s.now) id = true by rw [has_ids hi]; exact hh)]
  show lvP s.least s.now ((hearS s.peers id 0 q s.now).getD (pos (hearS s.peers id 0 q s.now) id) default) = _
  rw [pos_ids hi, hearS_get hh, if_pos rfl]
theorem lev_new {s : NSt} {id : ByteArray} {q : Int} (ok : NOK (hearQ s id q)) (hh : has s.peers id = true) (hn : newer (s.peers.getD (pos s.peers id) default) 0 q = true) : levN (hearQ s id q) id = 0 := by
  have hi := hearS_ids s.peers id 0 q s.now
  have h' : has (hearQ s id q).peers id = true := by show has (hearS s.peers id 0 q s.now) id = true; rw [has_ids hi]; exact hh
  obtain ⟨h1, h2, h3⟩ := ok.at (has_lt h')
  have e : (hearQ s id q).peers.getD (pos (hearQ s id q).peers id) default = heardP (s.peers.getD (pos s.peers id) default) 0 q s.now := by
    show (hearS s.peers id 0 q s.now).getD (pos (hearS s.peers id 0 q s.now) id) default = _
    rw [pos_ids hi, hearS_get hh, if_pos rfl]
  have hn' := ok.now
  rw [lev_some h']
  rw [e] at h1 h2 ⊢
  have el : (heardP (s.peers.getD (pos s.peers id) default) 0 q s.now).last = s.now := by unfold heardP; rw [if_pos hn]
  unfold lvP
  rw [el]
  have hs := (lv_facts h2 (by have := h1.win.2.1; have := h1.win.2.2.1; omega) h1.win.2.2.2 ok.least (T := 0) (by omega)).1.2.2.1
  exact lv_zero h2 (by have := h1.win.2.1; have := h1.win.2.2.1; omega) h1.win.2.2.2 ok.least (by show 0 ≤ s.now - s.now ∧ s.now - s.now ≤ _; omega) (by show _ * (s.now - s.now) ≤ _; rw [Int.sub_self, Int.mul_zero]; exact hs)
theorem lev_old {s : NSt} {id : ByteArray} {q : Int} (hh : has s.peers id = true) (hn : newer (s.peers.getD (pos s.peers id) default) 0 q = false) (x : ByteArray) : levN (hearQ s id q) x = levN s x := by
  by_cases e : x = id
  · subst e
    rw [lev_hear_same hh, lev_some hh]
    unfold lvP heardP
    rw [if_neg (by rw [hn]; simp)]
  · exact lev_hear_ne hh e
theorem mem_told {s : NSt} {x : Note} : x ∈ toldN s ↔ ∃ u ∈ s.subs, onOf s u ≠ u.on ∧ x = ⟨u.id, u.theta, onOf s u⟩ := by
  unfold toldN noteOf
  rw [List.mem_flatMap]
  constructor
  · rintro ⟨u, hu, hx⟩
    split at hx
    · cases hx
    · rename_i h; exact ⟨u, hu, h, by simpa using hx⟩
  · rintro ⟨u, hu, h, rfl⟩
    exact ⟨u, hu, by rw [if_neg h]; simp⟩
theorem told_none' {s : NSt} (h : ∀ u ∈ s.subs, u.on = onOf s u) : toldN s = [] ∧ toldS s = s.subs := by
  constructor
  · unfold toldN
    rw [List.flatMap_eq_nil_iff]
    intro u hu
    unfold noteOf
    rw [if_pos (h u hu).symm]
  · unfold toldS
    conv => rhs; rw [← List.map_id s.subs]
    apply List.map_congr_left
    intro u hu
    unfold upd
    rw [← h u hu]
    rfl

/-! A node that was asked. -/
/-- All of it but that subs know what is. -/
structure APre (E L T : Int) (s : NSt) : Prop where
  ok : NOK s
  id : s.id = nA
  inc : s.inc = 0
  every : s.every = E
  cap : s.cap = 4
  least : s.least = L
  seq : s.seq = s.now / E
  ids : s.peers.map (·.id) = [nB, nC, nD]
  each : ∀ p ∈ s.peers, p.inc = 0 ∧ p.cap = 4
  now : s.now ≤ T
  drops : s.drops ≤ T
  subs : ∀ u ∈ s.subs, has s.peers u.id = true ∧ 1 ≤ u.theta ∧ u.theta ≤ 12
  dist : s.subs.Pairwise (fun u v => ¬ (u.id = v.id ∧ u.theta = v.theta))
structure AOK (E L T : Int) (s : NSt) : Prop where
  pre : APre E L T s
  on : ∀ u ∈ s.subs, u.on = onOf s u
theorem APre.later {E L T T' : Int} {s : NSt} (h : APre E L T s) (hT : T ≤ T') : APre E L T' s :=
  ⟨h.ok, h.id, h.inc, h.every, h.cap, h.least, h.seq, h.ids, h.each, Int.le_trans h.now hT, Int.le_trans h.drops hT, h.subs, h.dist⟩
theorem AOK.later {E L T T' : Int} {s : NSt} (h : AOK E L T s) (hT : T ≤ T') : AOK E L T' s := ⟨h.pre.later hT, h.on⟩
theorem NOK.tell {s : NSt} (h : NOK s) : NOK (tellS s) := ⟨h.id, h.inc, h.every, h.cap, h.least, h.now, h.seq, h.drops, h.tab, h.wins, by show (toldS s).length ≤ 8; unfold toldS; rw [List.length_map]; exact h.subs⟩
theorem mem_toldS {s : NSt} {v : Sub} (h : v ∈ toldS s) : ∃ u ∈ s.subs, v = upd s u := by
  obtain ⟨u, hu, rfl⟩ := List.mem_map.1 h
  exact ⟨u, hu, rfl⟩
theorem APre.tell {E L T : Int} {s : NSt} (h : APre E L T s) : AOK E L T (tellS s) := by
  refine ⟨⟨h.ok.tell, h.id, h.inc, h.every, h.cap, h.least, h.seq, h.ids, h.each, h.now, h.drops, fun v hv => ?_, ?_⟩, fun v hv => ?_⟩
  · obtain ⟨u, hu, rfl⟩ := mem_toldS hv
    exact h.subs u hu
  · show (s.subs.map (upd s)).Pairwise _
    exact List.pairwise_map.2 h.dist
  · obtain ⟨u, hu, rfl⟩ := mem_toldS hv
    rfl
theorem seq_le {n E : Int} (h0 : 0 ≤ n) (hE : 1 ≤ E) : 0 ≤ n / E ∧ n / E ≤ n := ⟨Int.ediv_nonneg h0 (by omega), Int.ediv_le_self _ h0⟩
theorem APre.tick {E L T g : Int} {s : NSt} (h : APre E L T s) (hg : 1 ≤ g ∧ g ≤ 60) (hT : T ≤ 1000000) : APre E L (T + 60) (tickS s g) := by
  have h1 := h.now
  have h2 := h.ok.now
  have h3 := h.ok.every
  have h5 := h.drops
  have h4 := seq_le (n := s.now + g) (E := s.every) (by omega) h3.1
  refine ⟨⟨h.ok.id, h.ok.inc, h.ok.every, h.ok.cap, h.ok.least, ⟨by show 0 ≤ s.now + g; omega, by show s.now + g ≤ _; omega⟩, h4, h.ok.drops, h.ok.tab, fun p hp => ⟨(h.ok.wins p hp).1, by have := (h.ok.wins p hp).2; show p.last ≤ s.now + g; omega⟩, h.ok.subs⟩, h.id, h.inc, h.every, h.cap, h.least, by show (s.now + g) / s.every = (s.now + g) / E; rw [h.every], h.ids, h.each, by show s.now + g ≤ _; omega, by show s.drops ≤ _; omega, h.subs, h.dist⟩
theorem more_bd {d : Int} (h : 0 ≤ d) : 0 ≤ more d ∧ more d ≤ 1073741824 ∧ more d ≤ d + 1 := by unfold more; omega
theorem APre.drop {E L T : Int} {s : NSt} (h : APre E L T s) : APre E L (T + 1) (dropQ s) := by
  have h1 := h.now
  have h2 := more_bd h.ok.drops.1
  have h3 := h.drops
  exact ⟨⟨h.ok.id, h.ok.inc, h.ok.every, h.ok.cap, h.ok.least, h.ok.now, h.ok.seq, ⟨h2.1, h2.2.1⟩, h.ok.tab, h.ok.wins, h.ok.subs⟩, h.id, h.inc, h.every, h.cap, h.least, h.seq, h.ids, h.each, by show s.now ≤ _; omega, by show more s.drops ≤ _; omega, h.subs, h.dist⟩
theorem AOK.drop {E L T : Int} {s : NSt} (h : AOK E L T s) : AOK E L (T + 1) (dropQ s) := ⟨h.pre.drop, h.on⟩
theorem bok {id : ByteArray} {q : Int} (hid : IdOK (byts id)) (hq : 1 ≤ q ∧ q ≤ 30) : BOK (byts id) 0 q.toNat := ⟨hid, by omega, by omega, by omega⟩
theorem APre.hear {E L T q : Int} {s : NSt} {id : ByteArray} (h : APre E L T s) (hid : IdOK (byts id)) (hq : 1 ≤ q ∧ q ≤ 30) (hh : has s.peers id = true) : APre E L T (hearQ s id q) := by
  have hk := h.ok.hears (bok hid hq) hh
  rw [show ((q.toNat : Nat) : Int) = q by omega] at hk
  have hi := hearS_ids s.peers id 0 q s.now
  refine ⟨h.ok.hear hk, h.id, h.inc, h.every, h.cap, h.least, h.seq, by show (hearS s.peers id 0 q s.now).map (·.id) = _; rw [hi]; exact h.ids, fun p hp => ?_, h.now, h.drops, fun u hu => ?_, h.dist⟩
  · have hp' : p ∈ hearS s.peers id 0 q s.now := hp
    unfold hearS at hp'
    rcases List.mem_or_eq_of_mem_set hp' with hp' | rfl
    · exact h.each p hp'
    · have hm : s.peers.getD (pos s.peers id) default ∈ s.peers := by
        rw [List.getD_eq_getElem?_getD, List.getElem?_eq_getElem (has_lt hh)]; exact List.getElem_mem _
      have := h.each _ hm
      unfold heardP
      split
      · exact ⟨rfl, this.2⟩
      · exact this
  · have := h.subs u hu
    exact ⟨by show has (hearS s.peers id 0 q s.now) u.id = true; rw [has_ids hi]; exact this.1, this.2⟩
theorem hit_iff {id : ByteArray} {th : Int} {u : Sub} : hitS id th u = true ↔ u.id = id ∧ u.theta = th := by
  unfold hitS
  simp only [Bool.and_eq_true, beq_iff_eq]
  exact ⟨fun h => ⟨toList_inj h.1, h.2⟩, fun h => ⟨by rw [h.1], h.2⟩⟩
theorem idx_no {p : Sub → Bool} {L : List Sub} (h : idxS p L = -1) : ∀ u ∈ L, p u = false := by
  intro u hu
  unfold idxS at h
  split at h
  · exfalso; omega
  · rename_i hn
    cases hp : p u with
    | false => rfl
    | true => exact absurd (List.any_eq_true.2 ⟨u, hu, hp⟩) hn
theorem APre.join {E L T th : Int} {s : NSt} {id : ByteArray} (h : APre E L T s) (ht : 1 ≤ th ∧ th ≤ 12) (hh : has s.peers id = true) (hx : idxS (hitS id th) s.subs = -1) (h8 : s.subs.length < 8) : APre E L T (joinS s id th) := by
  refine ⟨h.ok.join id th h8, h.id, h.inc, h.every, h.cap, h.least, h.seq, h.ids, h.each, h.now, h.drops, fun u hu => ?_, ?_⟩
  · rcases List.mem_append.1 (show u ∈ s.subs ++ [⟨id, th, false⟩] from hu) with hu | hu
    · exact h.subs u hu
    · rw [List.mem_singleton] at hu
      subst hu
      exact ⟨hh, ht⟩
  · show (s.subs ++ [(⟨id, th, false⟩ : Sub)]).Pairwise _
    refine List.pairwise_append.2 ⟨h.dist, by simp, fun u hu v hv => ?_⟩
    rw [List.mem_singleton] at hv
    subst hv
    intro e
    have := idx_no hx u hu
    rw [hit_iff.2 e] at this
    cases this
theorem erase_mem {u : Sub} {L : List Sub} {k : Nat} (h : u ∈ L.eraseIdx k) : u ∈ L := (List.eraseIdx_sublist L k).mem h
theorem AOK.part {E L T : Int} {s : NSt} (h : AOK E L T s) (k : Nat) : AOK E L T (partQ s k) :=
  ⟨⟨⟨h.pre.ok.id, h.pre.ok.inc, h.pre.ok.every, h.pre.ok.cap, h.pre.ok.least, h.pre.ok.now, h.pre.ok.seq, h.pre.ok.drops, h.pre.ok.tab, h.pre.ok.wins, by
    show (s.subs.eraseIdx k).length ≤ 8
    have := (List.eraseIdx_sublist s.subs k).length_le
    have := h.pre.ok.subs
    omega⟩, h.pre.id, h.pre.inc, h.pre.every, h.pre.cap, h.pre.least, h.pre.seq, h.pre.ids, h.pre.each, h.pre.now, h.pre.drops, fun u hu => h.pre.subs u (erase_mem hu), h.pre.dist.sublist (List.eraseIdx_sublist _ k)⟩, fun u hu => h.on u (erase_mem hu)⟩
theorem AOK.ask {E L T a0 : Int} {s t : NSt} {id : ByteArray} {N : List Note} (h : AOK E L T s) (hid : IdOK (byts id)) (hT : T ≤ 1000000) (ha : Ask s a0 id t N) : AOK E L (T + 60) t := by
  cases ha with
  | tick g h0 hg => exact (h.pre.tick hg hT).tell
  | new q h0 hq hh hn => exact (h.pre.hear hid hq hh).tell.later (by omega)
  | old q h0 hq hh hn =>
    refine (show AOK E L (T + 1) (dropQ (hearQ s id q)) from ⟨(h.pre.hear hid hq hh).drop, fun u hu => ?_⟩).later (by omega)
    have := h.on u hu
    rw [this]
    show decide (u.theta ≤ levN s u.id) = decide (u.theta ≤ levN (hearQ s id q) u.id)
    rw [lev_old hh hn]
  | drop h0 => exact h.drop.later (by omega)
  | join th h0 ht hh hx h8 => exact (h.pre.join ht hh hx h8).tell.later (by omega)
  | part k h0 => exact (h.part k).later (by omega)
  | same h0 => exact h.later (by omega)

/-! What is told. -/
theorem tick_told {E L T g : Int} {s : NSt} (h : AOK E L T s) (hg : 1 ≤ g ∧ g ≤ 60) (hT : T ≤ 1000000) {x : Note} (hx : x ∈ toldN (tickS s g)) : x.sus = true := by
  obtain ⟨u, hu, hn, rfl⟩ := mem_told.1 hx
  have hu' : u ∈ s.subs := hu
  have h1 := h.on u hu'
  have h2 := h.pre.now
  have hm := lev_later (t := tickS s g) h.pre.ok rfl rfl (by show s.now ≤ s.now + g; omega) (by show s.now + g ≤ _; omega) u.id
  cases e : onOf (tickS s g) u with
  | true => rfl
  | false =>
    exfalso
    rw [e] at hn
    have h3 : u.on = true := by cases h' : u.on with | true => rfl | false => exact absurd h'.symm hn
    rw [h3] at h1
    unfold onOf at h1 e
    have h4 : u.theta ≤ levN s u.id := by simpa using h1.symm
    have h5 : ¬ u.theta ≤ levN (tickS s g) u.id := by simpa using e
    omega
theorem hear_told {E L T q : Int} {s : NSt} {id : ByteArray} (h : AOK E L T s) (hid : IdOK (byts id)) (hq : 1 ≤ q ∧ q ≤ 30) (hh : has s.peers id = true) (hn : newer (s.peers.getD (pos s.peers id) default) 0 q = true) {x : Note} (hx : x ∈ toldN (hearQ s id q)) : x.id = id ∧ x.sus = false := by
  obtain ⟨u, hu, hno, rfl⟩ := mem_told.1 hx
  have hu' : u ∈ s.subs := hu
  have h1 := h.on u hu'
  have h2 := h.pre.subs u hu'
  by_cases e : u.id = id
  · refine ⟨e, ?_⟩
    show decide (u.theta ≤ levN (hearQ s id q) u.id) = false
    rw [e, lev_new (h.pre.hear hid hq hh).ok hh hn]
    simp; omega
  · exfalso
    apply hno
    rw [h1]
    show decide (u.theta ≤ levN (hearQ s id q) u.id) = decide (u.theta ≤ levN s u.id)
    rw [lev_hear_ne hh e]
theorem join_told {E L T th : Int} {s : NSt} {id : ByteArray} (h : AOK E L T s) {x : Note} (hx : x ∈ toldN (joinS s id th)) : x.id = id ∧ x.theta = th ∧ x.sus = true := by
  obtain ⟨u, hu, hno, rfl⟩ := mem_told.1 hx
  rcases List.mem_append.1 (show u ∈ s.subs ++ [⟨id, th, false⟩] from hu) with hu | hu
  · exact absurd (h.on u hu).symm hno
  · rw [List.mem_singleton] at hu
    subst hu
    refine ⟨rfl, rfl, ?_⟩
    cases e : onOf (joinS s id th) ⟨id, th, false⟩ with
    | true => rfl
    | false => exact absurd e hno
/-- NodeTrust: who is trusted was heard, and nobody is suspected by that. -/
theorem ask_trust {E L T a0 : Int} {s t : NSt} {id : ByteArray} {N : List Note} (h : AOK E L T s) (hid : IdOK (byts id)) (hT : T ≤ 1000000) (ha : Ask s a0 id t N) {x : Note} (hx : x ∈ N) :
    (x.sus = true ∧ a0 ≠ 1) ∨ (x.sus = false ∧ a0 = 1 ∧ x.id = id) := by
  cases ha with
  | tick g h0 hg => exact .inl ⟨tick_told h hg hT hx, by omega⟩
  | new q h0 hq hh hn =>
    obtain ⟨h1, h2⟩ := hear_told h hid hq hh hn hx
    exact .inr ⟨h2, h0, h1⟩
  | old q h0 hq hh hn => cases hx
  | drop h0 => cases hx
  | join th h0 ht hh hx' h8 => exact .inl ⟨(join_told h hx).2.2, by omega⟩
  | part k h0 => cases hx
  | same h0 => cases hx

/-! A node that watches b, c and d. -/
def oneP (E : Int) (id : ByteArray) : Peer := ⟨id, 0, 0, 0, 4, [E], 0⟩
def oneS (E L : Int) : NSt := ⟨nA, 0, E, 4, L, 0, 0, 0, [oneP E nB, oneP E nC, oneP E nD], []⟩
theorem oneS_ok {E L : Int} (hE : 1 ≤ E ∧ E ≤ 50) (hL : 1 ≤ L ∧ L ≤ 20) : AOK E L 0 (oneS E L) := by
  have pk : ∀ id, IdOK (byts id) → PeerOK (oneP E id) := fun id h => ⟨h, by unfold GateOK oneP; simp, ⟨by simp [oneP], by simp [oneP], by simp [oneP], Btw.one (by omega) (by omega)⟩, by simp [oneP]⟩
  have bc : sl nB nC = true := by unfold sl; rw [ByteArray.toList_eq, ByteArray.toList_eq]; decide
  have bd : sl nB nD = true := by unfold sl; rw [ByteArray.toList_eq, ByteArray.toList_eq]; decide
  have cd : sl nC nD = true := by unfold sl; rw [ByteArray.toList_eq, ByteArray.toList_eq]; decide
  refine ⟨⟨⟨nA_ok, by simp [oneS], by simp [oneS]; omega, by simp [oneS], by simp [oneS]; omega, by simp [oneS], by simp [oneS], by simp [oneS], ⟨by simp [oneS], fun p hp => ?_, ?_⟩, fun p hp => ?_, by simp [oneS]⟩, rfl, rfl, rfl, rfl, rfl, by simp [oneS], rfl, fun p hp => ?_, by simp [oneS], by simp [oneS], fun u hu => by simp [oneS] at hu, by simp [oneS]⟩, fun u hu => by simp [oneS] at hu⟩
  · simp [oneS] at hp
    rcases hp with rfl | rfl | rfl
    · exact pk _ nB_ok
    · exact pk _ nC_ok
    · exact pk _ nD_ok
  · simp [oneS, oneP, bc, bd, cd]
  · simp [oneS] at hp
    rcases hp with rfl | rfl | rfl <;> simp [oneP, oneS]
  · simp [oneS] at hp
    rcases hp with rfl | rfl | rfl <;> simp [oneP]
end Go.Proofs.YtpomdnglknbanaaGreat
namespace Go.Proofs.YtpomdnglknbanaaGreat
open Go Go.RowKit
theorem own_nil (w : World) (m t : Nat) : w.ownsRow m t 3 (.slice none 0 0) 0 [] := World.ownsRow_nil _ _ _ _
theorem ext_lt {f : Nat → Prop} {a z n : Nat} (h : ∀ x, f x → x < n) (hz : z ≤ n) : ∀ x, ext f a z x → x < n := fun x hx => by
  rcases hx with hx | hx
  · exact h x hx
  · omega
theorem atick {E L T g : Int} {b : Nat} {s : NSt} {f : Nat → Prop} (w : World) (h : NRep w b s f) (ok : APre E L T s) (hg : 1 ≤ g ∧ g ≤ 60) (hT : T ≤ 1000000) :
    Calls Tryz.prog 20 #[.pointer (some ⟨b, 0, none⟩), .int .i64 g] w fun e w' => ∃ (v : Value) (A' : Option Addr) (c' m : Nat), e = .returned (.tuple #[v, .slice A' (tickF s g).2.length c', .int .i64 0]) ∧ (m : Int) = (s.now + g) / E - s.now / E ∧ w'.ownsRow w.heap.size 9 1 v m (sent nA 0 (s.now / E).toNat m) ∧
      w'.ownsRow w.heap.size 46 3 (.slice A' (tickF s g).2.length c') (tickF s g).2.length (notesC (tickF s g).2) ∧ NRep w' b (tickF s g).1 f ∧ Kept f w w' := by
  have hE := ok.every
  have e1 := ok.ok.every
  have n0 := ok.ok.now
  have n1 := ok.now
  rw [hE] at e1
  have q1 := seq_le (n := s.now) (E := E) (by omega) e1.1
  have q2 := seq_le (n := s.now + g) (E := E) (by omega) e1.1
  have q3 : s.now / E ≤ (s.now + g) / E := Int.ediv_le_ediv (by omega) (by omega)
  have q4 : g / s.every < 64 := by
    rw [hE]
    have := seq_le (n := g) (E := E) (by omega) e1.1
    omega
  obtain ⟨m, hm⟩ : ∃ m : Nat, (m : Int) = (s.now + g) / E - s.now / E := ⟨((s.now + g) / E - s.now / E).toNat, by omega⟩
  have ht : ({ s with now := s.now + g, seq := (((s.now / E).toNat + m : Nat) : Int) } : NSt) = tickS s g := by
    unfold tickS
    rw [hE, show (((s.now / E).toNat + m : Nat) : Int) = (s.now + g) / E by omega]
  refine (tick_ok (inc := 0) (seq := (s.now / E).toNat) (m := m) (g := g) (D := s.now / E) w h ok.ok (by rw [ok.inc]; rfl) (by rw [ok.seq]; omega) ⟨by omega, by omega⟩ (by omega) q4 (by rw [hE]) (by rw [hE]; omega) (by omega) (fun t htt => by
    rw [htt, ht]
    exact (ok.tick hg hT).ok)).mono ?_
  rintro e w' ⟨t, v, A', c', htt, rfl, hs, hn, rep, kept⟩
  rw [ht] at htt
  subst htt
  rw [ok.id] at hs
  exact ⟨v, A', c', m, rfl, hm, hs, hn, rep, kept⟩
theorem ahear {b : Nat} {s : NSt} {f : Nat → Prop} {id : ByteArray} {q : Int} (w : World) (h : NRep w b s f) (ok : NOK s) (hid : IdOK (byts id)) (hq : 1 ≤ q ∧ q < 2147483648) :
    Calls Tryz.prog 26 #[.pointer (some ⟨b, 0, none⟩), .string (mkB (encL (byts id) 0 q.toNat))] w fun e w' => ∃ A' c' m e0, e = .returned (.tuple #[.slice A' (hearF s id q).2.length c', .int .i64 e0]) ∧
      w'.ownsRow m 46 3 (.slice A' (hearF s id q).2.length c') (hearF s id q).2.length (notesC (hearF s id q).2) ∧ NRep w' b (hearF s id q).1 (ext f w.heap.size m) ∧ w.heap.size ≤ m ∧ m ≤ w'.heap.size ∧ Kept f w w' ∧
      (has s.peers id = true → newB s id q = true → e0 = 0) ∧ (has s.peers id = true → newB s id q = false → e0 = 5) ∧ (has s.peers id = false → (e0 != 0) = true) := by
  have hbk : BOK (byts id) 0 q.toNat := ⟨hid, by omega, by omega, by omega⟩
  have eq : ((q.toNat : Nat) : Int) = q := by omega
  have hfl := h.lt
  have me : ∀ {w' : World}, Kept f w w' → ∀ x, ext f w.heap.size w.heap.size x → x < w'.heap.size := fun k x hx => by
    have := ext_lt (a := w.heap.size) hfl (Nat.le_refl _) x hx
    have := k.size
    omega
  cases hh : has s.peers id with
  | false =>
    have e0 : hearF s id q = (dropQ s, []) := by unfold hearF; rw [if_neg (by rw [hh]; simp)]
    rw [e0]
    refine (nhear_none b s f id 0 q.toNat w h ok hbk hh).mono ?_
    rintro e w' ⟨⟨k, hk, rfl⟩, rep, kept⟩
    exact ⟨none, 0, w.heap.size, k, rfl, own_nil _ _ _, rep.imp (fun x hx => .inl hx) (me kept), Nat.le_refl _, kept.size, kept, (fun h => by cases h), (fun h => by cases h), fun _ => hk⟩
  | true =>
    cases hn : newB s id q with
    | true =>
      have e0 : hearF s id q = (tellS (hearQ s id q), toldN (hearQ s id q)) := by unfold hearF; rw [if_pos hh, if_pos hn]
      rw [e0]
      refine (nhear_new b s f id 0 q.toNat w h ok hbk hh (by rw [eq]; exact hn)).mono ?_
      rintro e w' ⟨t, A', c', m, ht, rfl, own, rep, hm, hm2, kept⟩
      rw [eq] at ht
      have ht' : t = hearQ s id q := ht
      subst ht'
      exact ⟨A', c', m, 0, rfl, own, rep, hm, hm2, kept, fun _ _ => rfl, (fun _ h => by cases h), (fun h => by cases h)⟩
    | false =>
      have e0 : hearF s id q = (dropQ (hearQ s id q), []) := by unfold hearF; rw [if_pos hh, if_neg (by rw [hn]; simp)]
      rw [e0]
      refine (nhear_old b s f id 0 q.toNat w h ok hbk hh (by rw [eq]; exact hn)).mono ?_
      rintro e w' ⟨rfl, ⟨m, rep⟩, kept⟩
      rw [eq] at rep
      have hl := rep.lt
      have hz := kept.size
      refine ⟨none, 0, w'.heap.size, 5, rfl, own_nil _ _ _, rep.imp (fun x hx => ?_) (fun x hx => ?_), hz, Nat.le_refl _, kept, (fun _ h => by cases h), fun _ _ => rfl, (fun h => by cases h)⟩
      · rcases hx with hx | hx
        · exact .inl hx
        · exact .inr ⟨hx.1, hl x (.inr hx)⟩
      · rcases hx with hx | hx
        · have := hfl x hx; omega
        · exact hx.2
theorem idx_ge (p : Sub → Bool) (L : List Sub) : idxS p L = -1 ∨ (0 ≤ idxS p L ∧ (idxS p L).toNat < L.length) := by
  unfold idxS
  split
  · rename_i h
    right
    refine ⟨by omega, ?_⟩
    obtain ⟨u, hu, hp⟩ := List.any_eq_true.1 h
    have := List.findIdx_lt_length_of_exists ⟨u, hu, hp⟩
    omega
  · exact .inl rfl
theorem ajoin {b : Nat} {s : NSt} {f : Nat → Prop} {id : ByteArray} {th : Int} (w : World) (h : NRep w b s f) (ok : NOK s) (ht : 1 ≤ th ∧ th ≤ 60) :
    Calls Tryz.prog 37 #[.pointer (some ⟨b, 0, none⟩), .string id, .int .i64 th] w fun e w' => ∃ A' c' m e0, e = .returned (.tuple #[.slice A' (joinF s id th).2.length c', .int .i64 e0]) ∧
      w'.ownsRow m 46 3 (.slice A' (joinF s id th).2.length c') (joinF s id th).2.length (notesC (joinF s id th).2) ∧ NRep w' b (joinF s id th).1 (ext f w.heap.size m) ∧ w.heap.size ≤ m ∧ m ≤ w'.heap.size ∧ Kept f w w' ∧
      (e0 = if has s.peers id = true then (if 0 ≤ idxS (hitS id th) s.subs then 5 else if s.subs.length < 8 then 0 else 10) else 4) := by
  have hfl := h.lt
  have same : ∀ {w' : World}, Below w.heap.size w w' → NRep w' b s (ext f w.heap.size w.heap.size) ∧ Kept f w w' := fun hb => by
    have hz := hb.size
    exact ⟨(h.below hb).imp (fun x hx => .inl hx) (fun x hx => by have := ext_lt (a := w.heap.size) hfl (Nat.le_refl _) x hx; omega), Kept.of_below hb⟩
  have h8 := ok.subs
  cases hh : has s.peers id with
  | false =>
    have e0 : joinF s id th = (s, []) := by unfold joinF; rw [if_neg (by rw [hh]; simp)]
    rw [e0]
    refine (njoin_none b s f id th w h ok ht hh).mono ?_
    rintro e w' ⟨rfl, hb⟩
    exact ⟨none, 0, w.heap.size, 4, rfl, own_nil _ _ _, (same hb).1, Nat.le_refl _, hb.size, (same hb).2, rfl⟩
  | true =>
    rcases idx_ge (hitS id th) s.subs with hx | hx
    · by_cases hl : s.subs.length < 8
      · have e0 : joinF s id th = (tellS (joinS s id th), toldN (joinS s id th)) := by unfold joinF; rw [if_pos ⟨hh, hx, hl⟩]
        rw [e0]
        refine (njoin_ok b s f id th w h ok ht hh hx hl).mono ?_
        rintro e w' ⟨A', c', m, rfl, own, rep, hm, hm2, kept⟩
        exact ⟨A', c', m, 0, rfl, own, rep, hm, hm2, kept, by rw [hx, if_pos rfl, if_neg (by omega), if_pos hl]⟩
      · have e0 : joinF s id th = (s, []) := by unfold joinF; rw [if_neg (fun hc => hl hc.2.2)]
        rw [e0]
        refine (njoin_not b s f id th _ 10 w h ok ht hh rfl (.inr ⟨by omega, by omega, rfl⟩)).mono ?_
        rintro e w' ⟨rfl, hb⟩
        exact ⟨none, 0, w.heap.size, 10, rfl, own_nil _ _ _, (same hb).1, Nat.le_refl _, hb.size, (same hb).2, by rw [hx, if_pos rfl, if_neg (by omega), if_neg hl]⟩
    · have e0 : joinF s id th = (s, []) := by unfold joinF; rw [if_neg (fun hc => by have := hc.2.1; omega)]
      rw [e0]
      refine (njoin_not b s f id th _ 5 w h ok ht hh rfl (.inl ⟨hx.1, rfl⟩)).mono ?_
      rintro e w' ⟨rfl, hb⟩
      exact ⟨none, 0, w.heap.size, 5, rfl, own_nil _ _ _, (same hb).1, Nat.le_refl _, hb.size, (same hb).2, by rw [if_pos rfl, if_pos hx.1]⟩
theorem apart {b : Nat} {s : NSt} {f : Nat → Prop} {id : ByteArray} {th : Int} (w : World) (h : NRep w b s f) (ok : NOK s) :
    Calls Tryz.prog 38 #[.pointer (some ⟨b, 0, none⟩), .string id, .int .i64 th] w fun e w' => ∃ e0, e = .returned (.int .i64 e0) ∧ NRep w' b (partF s id th).1 f ∧ Kept f w w' ∧ (e0 = if 0 ≤ idxS (hitS id th) s.subs then 0 else 4) := by
  rcases idx_ge (hitS id th) s.subs with hx | hx
  · have e0 : partF s id th = (s, []) := by unfold partF; rw [if_neg (by omega)]
    rw [e0, if_neg (by omega)]
    refine (npart_none b s f id th w h ok hx).mono ?_
    rintro e w' ⟨rfl, hb⟩
    exact ⟨4, rfl, h.below hb, Kept.of_below hb, rfl⟩
  · have e0 : partF s id th = (partQ s (idxS (hitS id th) s.subs).toNat, []) := by unfold partF; rw [if_pos hx.1]
    rw [e0, if_pos hx.1]
    refine (npart_ok b s f id th (idxS (hitS id th) s.subs).toNat w h ok (by omega) hx.2).mono ?_
    rintro e w' ⟨rfl, rep, kept⟩
    exact ⟨0, rfl, rep, kept, rfl⟩
end Go.Proofs.YtpomdnglknbanaaGreat
namespace Go.Proofs.YtpomdnglknbanaaGreat
open Go Go.RowKit
theorem NRep.at' {w : World} {b : Nat} {s : NSt} {f : Nat → Prop} (h : NRep w b s f) : ∃ P S, NodeAt w b s.id s.inc s.every s.cap s.least s.now s.seq s.drops P S := by
  obtain ⟨A, n, c, S, h1, _⟩ := h
  exact ⟨_, _, h1⟩
set_option maxRecDepth 100000 in
set_option maxHeartbeats 8000000 in
theorem nbegun_ok (w : World) : Calls Tryz.prog 4 #[] w fun e w' => e = .returned (.bool true) ∧ Below w.heap.size w w' := by
  have HNew := Lib.hid (fun w' => new_ok nA 0 5 3 1 w' nA_ok (by omega) (by omega) (by omega) (by omega))
  have ok0 : NOK (⟨nA, 0, 5, 3, 1, 0, 0, 0, [], []⟩ : NSt) := NOK.new nA_ok (by omega) (by omega) (by omega) (by omega)
  have hno : ∀ t : NSt, t = ({ (⟨nA, 0, 5, 3, 1, 0, 0, 0, [], []⟩ : NSt) with now := 0 + 12, seq := ((0 + 2 : Nat) : Int) } : NSt) → NOK t := fun t ht => by
    rw [ht]
    exact ⟨nA_ok, by simp, by simp, by simp, by simp, by simp, by simp, by simp, ⟨by simp, by simp, by simp⟩, by simp, by simp⟩
  have HTk := Lib.hid (fun b f w' (h : NRep w' b (⟨nA, 0, 5, 3, 1, 0, 0, 0, [], []⟩ : NSt) f) => tick_ok (inc := 0) (seq := 0) (m := 2) (g := 12) (D := 0) w' h ok0 rfl rfl ⟨by omega, by omega⟩ (by simp) (by simp) (by simp) (by simp) (by omega) hno)
  clear ok0 hno
  go_enter Tryz.func4, Tryz.ntmps4
  go_wp2_with fail
  refine (HNew.out _).mono ?_
  rintro e w3 ⟨b, rfl, bb, nd3, hb3⟩
  have R3 := Lib.hid (NRep.new nd3)
  have HB3 := Lib.hid hb3
  have z3 := hb3.size
  clear nd3 hb3
  go_wp2_with fail
  refine (HTk.out _ _ _ R3.out).mono ?_
  rintro e w4 ⟨t, v, A', c', ht, rfl, own, _, rep, kept⟩
  obtain ⟨A, c, rfl, _⟩ := own_form own
  obtain ⟨P, S, nd⟩ := rep.at'
  have nd1 : NodeAt w4 b nA 0 5 3 1 12 2 0 P S := by
    rw [ht] at nd
    exact nd
  have HNow := Lib.hid (now_ok w4 nd1)
  have HSeq := Lib.hid (seq_ok w4 nd1)
  have HB4 := Lib.hid (HB3.out.trans (kept.below (by omega) (fun x hx => by omega)))
  clear ht own rep kept nd nd1
  go_wp2_with fail
  refine HNow.out.mono ?_
  rintro e w' ⟨rfl, rfl⟩
  go_wp2_with fail
  refine HSeq.out.mono ?_
  rintro e w' ⟨rfl, rfl⟩
  go_wp2_with fail
  go_ret
  exact ⟨rfl, HB4.out⟩
/-- What watching one more does. -/
def watchS (s : NSt) (id : ByteArray) (E : Int) : NSt := { s with peers := addS (newP id s.cap E s.now) s.peers }
def zeroS (E L : Int) : NSt := ⟨nA, 0, E, 4, L, 0, 0, 0, [], []⟩
theorem addS_last (p : Peer) (L : List Peer) (h : ∀ q ∈ L, sl q.id p.id = true) : addS p L = L ++ [p] := by
  induction L with
  | nil => rfl
  | cons q r ih =>
    unfold addS
    rw [if_pos (h q (by simp)), ih (fun x hx => h x (by simp [hx]))]
    rfl
theorem has_not {L : List Peer} {id : ByteArray} (h : ∀ q ∈ L, sl q.id id = true) : has L id = false := by
  cases hc : has L id with
  | false => rfl
  | true =>
    have h1 := has_lt hc
    have h2 := has_id hc
    have hm : L.getD (pos L id) default ∈ L := by
      rw [List.getD_eq_getElem?_getD, List.getElem?_eq_getElem h1]; exact List.getElem_mem _
    have := h _ hm
    rw [h2, sl_irr] at this
    cases this
theorem sl_bc : sl nB nC = true := by unfold sl; rw [ByteArray.toList_eq, ByteArray.toList_eq]; decide
theorem sl_bd : sl nB nD = true := by unfold sl; rw [ByteArray.toList_eq, ByteArray.toList_eq]; decide
theorem sl_cd : sl nC nD = true := by unfold sl; rw [ByteArray.toList_eq, ByteArray.toList_eq]; decide
def ofK (k : Nat) : ByteArray := if k = 0 then nB else if k = 1 then nC else nD
def upS (E L : Int) (k : Nat) : NSt := { zeroS E L with peers := (List.range k).map fun j => oneP E (ofK j) }
theorem upS_zero (E L : Int) : upS E L 0 = zeroS E L := rfl
theorem upS_three (E L : Int) : upS E L 3 = oneS E L := rfl
theorem ofK_sl {j k : Nat} (h : j < k) (hk : k < 3) : sl (ofK j) (ofK k) = true := by
  have : (j = 0 ∧ k = 1) ∨ (j = 0 ∧ k = 2) ∨ (j = 1 ∧ k = 2) := by omega
  rcases this with ⟨rfl, rfl⟩ | ⟨rfl, rfl⟩ | ⟨rfl, rfl⟩
  · exact sl_bc
  · exact sl_bd
  · exact sl_cd
theorem ofK_ok (k : Nat) : IdOK (byts (ofK k)) := by
  unfold ofK
  split
  · exact nB_ok
  · split
    · exact nC_ok
    · exact nD_ok
theorem upS_sl (E L : Int) {k : Nat} (hk : k < 3) : ∀ q ∈ (upS E L k).peers, sl q.id (ofK k) = true := fun q hq => by
  obtain ⟨j, hj, rfl⟩ := List.mem_map.1 hq
  exact ofK_sl (List.mem_range.1 hj) hk
theorem upS_succ (E L : Int) {k : Nat} (hk : k < 3) : watchS (upS E L k) (ofK k) E = upS E L (k + 1) := by
  have h := addS_last (newP (ofK k) 4 E 0) (upS E L k).peers (upS_sl E L hk)
  show { upS E L k with peers := addS (newP (ofK k) 4 E 0) (upS E L k).peers } = _
  rw [h]
  show { zeroS E L with peers := ((List.range k).map fun j => oneP E (ofK j)) ++ [newP (ofK k) 4 E 0] } = { zeroS E L with peers := (List.range (k + 1)).map fun j => oneP E (ofK j) }
  rw [List.range_succ, List.map_append]
  rfl
theorem upS_ok {E L : Int} (hE : 1 ≤ E ∧ E ≤ 50) (hL : 1 ≤ L ∧ L ≤ 20) : ∀ k, k ≤ 3 → NOK (upS E L k)
  | 0, _ => show NOK ⟨nA, 0, E, 4, L, 0, 0, 0, [], []⟩ from NOK.new nA_ok (by omega) (by omega) (by omega) (by omega)
  | k + 1, h => by
    rw [← upS_succ E L (show k < 3 by omega)]
    exact (upS_ok hE hL k (by omega)).add (ofK_ok k) (by omega) (has_not (upS_sl E L (by omega))) (by simp [upS]; omega)
theorem ofK_ne (k : Nat) : ofK k ≠ nA := by
  unfold ofK
  split
  · decide
  · split <;> decide
set_option maxRecDepth 100000 in
set_option maxHeartbeats 8000000 in
theorem one_ok (e0 l0 E L : Int) (w : World) (hE : within e0 50 = E - 1) (hL : within l0 20 = L - 1) :
    Calls Tryz.prog 11 #[.int .i64 e0, .int .i64 l0] w fun e w' => ∃ b f, e = .returned (.pointer (some ⟨b, 0, none⟩)) ∧ NRep w' b (oneS E L) f ∧ (∀ x, f x → w.heap.size ≤ x) ∧ Below w.heap.size w w' := by
  have b1 := within_bd e0 (n := 50) (by omega)
  have b2 := within_bd l0 (n := 20) (by omega)
  have EB : 1 ≤ E ∧ E ≤ 50 := by omega
  have LB : 1 ≤ L ∧ L ≤ 20 := by omega
  have v1 : IntKind.i64.wrap (1 + (E - 1)) = E := by rw [show 1 + (E - 1) = E by omega]; exact IntWalk.i64_in _ (by omega)
  have v2 : IntKind.i64.wrap (1 + (L - 1)) = L := by rw [show 1 + (L - 1) = L by omega]; exact IntWalk.i64_in _ (by omega)
  obtain ⟨E1, hE1⟩ : ∃ x, E - 1 = x := ⟨_, rfl⟩
  obtain ⟨L1, hL1⟩ : ∃ x, L - 1 = x := ⟨_, rfl⟩
  rw [hE1] at hE v1
  rw [hL1] at hL v2
  have HE := Lib.hid hE
  have HL := Lib.hid hL
  have HNew := Lib.hid (fun w' => new_ok nA 0 E 4 L w' nA_ok (by omega) (by omega) (by omega) (by omega))
  have HWa := Lib.hid (fun k (hk : k < 3) b f w' (h : NRep w' b (upS E L k) f) => nwatch_ok b _ f (ofK k) E w' h (upS_ok EB LB k (by omega)) (ofK_ne k) (ofK_ok k) (by omega) (has_not (upS_sl E L hk)) (by simp [upS]; omega))
  have HSu := Lib.hid (fun k (hk : k < 3) => upS_succ E L hk)
  clear hE hL hE1 hL1 b1 b2
  have qa := alloc_cells
  have qf := alloc_frozens
  go_enter Tryz.func11, Tryz.ntmps11
  go_wp2_with fail
  refine (within_any e0 50 E1 _ (by omega) (by omega) HE.out).mono ?_
  rintro e w' ⟨rfl, rfl⟩
  go_wp2_with fail
  refine (within_any l0 20 L1 _ (by omega) (by omega) HL.out).mono ?_
  rintro e w' ⟨rfl, rfl⟩
  go_wp2_with fail
  refine (HNew.out _).mono ?_
  rintro e w3 ⟨b, rfl, bb, nd3, hb3⟩
  have R3 := Lib.hid (NRep.new nd3)
  have HB3 := Lib.hid hb3
  have z3 := hb3.size
  have bl3 := nd3.lt
  clear nd3 hb3
  go_wp2_with fail
  have str4 : ∀ k : Nat, k < 3 → (w3.alloc (.cells #[.string ⟨#[98]⟩, .string ⟨#[99]⟩, .string ⟨#[100]⟩] 9)).cell? ⟨w3.heap.size, k, none⟩ = some (.string (ofK k)) := fun k hk => by
    rcases (show k = 0 ∨ k = 1 ∨ k = 2 by omega) with rfl | rfl | rfl <;> simp [qa] <;> rfl
  have HS4 := Lib.hid str4
  have z4 : (w3.alloc (.cells #[.string ⟨#[98]⟩, .string ⟨#[99]⟩, .string ⟨#[100]⟩] 9)).heap.size = w3.heap.size + 1 := by simp
  have R4 := Lib.hid (R3.out.below ((Below.refl w3.heap.size w3).alloc (Nat.le_refl _) (.cells #[.string ⟨#[98]⟩, .string ⟨#[99]⟩, .string ⟨#[100]⟩] 9)))
  have B4 := Lib.hid (HB3.out.alloc z3 (.cells #[.string ⟨#[98]⟩, .string ⟨#[99]⟩, .string ⟨#[100]⟩] 9))
  clear str4 qa qf
  generalize w3.alloc (.cells #[.string ⟨#[98]⟩, .string ⟨#[99]⟩, .string ⟨#[100]⟩] 9) = w4 at HS4 z4 R4 B4 ⊢
  obtain ⟨B, hB⟩ : ∃ B, w3.heap.size = B := ⟨_, rfl⟩
  rw [hB] at HS4 z4 bl3 z3 ⊢
  have HBB := Lib.hid hB
  clear hB
  go_loopw [22] (fun i wr => ∃ (k : Nat) (f : Nat → Prop), k ≤ 3 ∧ i = .int .i64 k ∧ NRep wr b (upS E L k) f ∧ (∀ x, f x → w.heap.size ≤ x ∧ x ≠ B) ∧ Below w.heap.size w wr ∧ (∀ j : Nat, j < 3 → wr.cell? ⟨B, j, none⟩ = some (.string (ofK j))) ∧ B < wr.heap.size) (fun i _ => 3 - (intOf i).toNat)
  case atStart => exact ⟨0, _, by omega, rfl, R4.out, fun x hx => by omega, B4.out, HS4.out, by omega⟩
  case round =>
    obtain ⟨k, f, hk, rfl, hrep, hf, bel, hs, hBl⟩ := hrel
    have sz0 := bel.size
    by_cases hlt : k < 3
    · obtain ⟨id, hid⟩ : ∃ id, ofK k = id := ⟨_, rfl⟩
      have kc := hs k hlt
      have HW := Lib.hid (HWa.out k hlt b f wr hrep)
      have HS := Lib.hid (HSu.out k hlt)
      rw [hid] at kc HW HS
      have HF := Lib.hid hf
      have HBe := Lib.hid bel
      have HSt := Lib.hid hs
      have klt : (k : Int) < 3 := by omega
      clear hid hrep hf bel hs
      go_wp2_with fail
      refine (within_any e0 50 E1 _ (by omega) (by omega) HE.out).mono ?_
      rintro e w' ⟨rfl, rfl⟩
      go_wp2_with fail
      refine HW.out.mono ?_
      rintro e w5 ⟨rfl, ⟨m, rep⟩, kept⟩
      have z5 := kept.size
      have hnB : ¬ f B := fun h => (HF.out B h).2 rfl
      have R5 : NRep w5 b (upS E L (k + 1)) (ext f wr.heap.size m) := by rw [← HS.out]; exact rep
      have B5 := HBe.out.trans (kept.below (by omega) (fun x hx => (HF.out x hx).1))
      have S5 : ∀ j : Nat, j < 3 → w5.cell? ⟨B, j, none⟩ = some (.string (ofK j)) := fun j hj => (World.cell?_of_block (a := ⟨B, j, none⟩) (kept.block B hBl hnB)).trans (HSt.out j hj)
      clear rep kept
      go_wp2_with fail
      go_roundw
      case rel => exact ⟨k + 1, _, by omega, by go_num, R5, fun x hx => hx.elim (HF.out x) (fun h => ⟨by omega, by omega⟩), B5, S5, by omega⟩
      case measure => simp [intOf]; omega
    · obtain rfl : k = 3 := by omega
      have HR := Lib.hid hrep
      have HF := Lib.hid hf
      have HBe := Lib.hid bel
      clear hrep hf bel hs
      go_wp2_with fail
      go_ret
      exact ⟨b, f, rfl, HR.out, fun x hx => (HF.out x hx).1, HBe.out⟩
end Go.Proofs.YtpomdnglknbanaaGreat
namespace Go.Proofs.YtpomdnglknbanaaGreat
open Go Go.RowKit
set_option maxHeartbeats 4000000 in
theorem at_ok (i : Nat) (bx n cap : Nat) (A : Option Addr) (l : List Int) (x : Int) (w : World) (hc : w.cell? ⟨bx, 0, none⟩ = some (.slice A n cap)) (hr : InRow w A n cap l) (hi : i ≤ 2) (hx : l.getD i 0 = x) :
    Calls Tryz.prog 36 #[.int .i64 i, .pointer (some ⟨bx, 0, none⟩)] w fun e w' => e = .returned (.int .i64 x) ∧ w = w' := by
  have hl := hr.1.len
  by_cases h : i < n
  · obtain ⟨b, off, rfl, hb, hc2⟩ := hr.1.at (by omega)
    have hci := hc2 i (by omega)
    rw [hx] at hci
    have hd : decide ((i : Int) < n) = true := by simp; omega
    have hlt : (i : Int) < n := by omega
    clear hr hx hc2
    go_enter Tryz.func36, Tryz.ntmps36
    go_wp2_with fail
    go_ret
    exact ⟨rfl, rfl⟩
  · have hx0 : x = 0 := by rw [← hx, List.getD_eq_getElem?_getD, List.getElem?_eq_none (by omega)]; rfl
    subst hx0
    have hlt : ¬ (i : Int) < n := by omega
    clear hr hx
    go_enter Tryz.func36, Tryz.ntmps36
    go_wp2_with fail
    go_ret
    exact ⟨rfl, rfl⟩
theorem bad_text (k : Int) (w : World) : Calls Tryz.prog 49 #[.string (⟨#[72]⟩ ++ nmK k)] w fun e w' => e = .returned (.tuple #[.agg #[.string ⟨#[]⟩, .int .i64 0, .int .i64 0], .int .i64 3]) ∧ Below w.heap.size w w' := by
  have h : ∀ x : ByteArray, x = nB ∨ x = nC ∨ x = nD ∨ x = nE → decE (byts (⟨#[72]⟩ ++ x)) = 3 ∧ (⟨#[72]⟩ ++ x : ByteArray).size ≤ 9223372036854775807 := fun x hx => by
    rcases hx with rfl | rfl | rfl | rfl <;> decide
  have hk : nmK k = nB ∨ nmK k = nC ∨ nmK k = nD ∨ nmK k = nE := by
    unfold nmK
    split
    · exact .inl rfl
    · split
      · exact .inr (.inl rfl)
      · split
        · exact .inr (.inr (.inl rfl))
        · exact .inr (.inr (.inr rfl))
  exact decode_bad _ 3 w (h _ hk).2 (h _ hk).1 (by omega)
theorem within_same (k n x : Int) (w : World) (h : 0 < n) (h1 : n ≤ 9223372036854775807) (hx : within k n = x) : Calls Tryz.prog 22 #[.int .i64 k, .int .i64 n] w fun e w' => e = .returned (.int .i64 x) ∧ w = w' := within_any k n x w h h1 hx
/-- What asked does to a node in these rows. -/
def askL (s : NSt) (l : List Int) : NSt × List Note := askF s (within (l.getD 0 0) 5) (nmK (within (l.getD 1 0) 4)) (l.getD 1 0) (l.getD 2 0)
set_option maxRecDepth 100000 in
set_option maxHeartbeats 16000000 in
theorem asked_ok {E L T : Int} (b : Nat) (s : NSt) (f : Nat → Prop) (n cap : Nat) (A : Option Addr) (l : List Int) (w : World) (h : NRep w b s f) (ok : AOK E L T s) (hT : T ≤ 1000000) (hr : InRow w A n cap l) :
    Calls Tryz.prog 13 #[.pointer (some ⟨b, 0, none⟩), .slice A n cap] w fun e w' => ∃ A' c' m, e = .returned (.slice A' (askL s l).2.length c') ∧ w'.ownsRow m 46 3 (.slice A' (askL s l).2.length c') (askL s l).2.length (notesC (askL s l).2) ∧
      NRep w' b (askL s l).1 (ext f w.heap.size m) ∧ w.heap.size ≤ m ∧ m ≤ w'.heap.size ∧ Kept f w w' := by
  obtain ⟨x0, hx0⟩ : ∃ x, l.getD 0 0 = x := ⟨_, rfl⟩
  obtain ⟨x1, hx1⟩ : ∃ x, l.getD 1 0 = x := ⟨_, rfl⟩
  obtain ⟨x2, hx2⟩ : ∃ x, l.getD 2 0 = x := ⟨_, rfl⟩
  have d0 := within_bd x0 (n := 5) (by omega)
  have d1 := within_bd x1 (n := 4) (by omega)
  have d3 := within_bd x1 (n := 60) (by omega)
  have d4 := within_bd x2 (n := 30) (by omega)
  have d5 := within_bd x2 (n := 12) (by omega)
  obtain ⟨a0, ha0⟩ : ∃ x, within x0 5 = x := ⟨_, rfl⟩
  obtain ⟨k, hk⟩ : ∃ k : Nat, within x1 4 = k := ⟨(within x1 4).toNat, by omega⟩
  obtain ⟨y3, hy3⟩ : ∃ x, within x1 60 = x := ⟨_, rfl⟩
  obtain ⟨y4, hy4⟩ : ∃ x, within x2 30 = x := ⟨_, rfl⟩
  obtain ⟨y5, hy5⟩ : ∃ x, within x2 12 = x := ⟨_, rfl⟩
  obtain ⟨g, hg⟩ : ∃ x, 1 + y3 = x := ⟨_, rfl⟩
  obtain ⟨q, hq⟩ : ∃ q : Nat, 1 + y4 = q := ⟨(1 + y4).toNat, by omega⟩
  obtain ⟨th, hth⟩ : ∃ x, 1 + y5 = x := ⟨_, rfl⟩
  have v3 : IntKind.i64.wrap (1 + y3) = g := by rw [hg]; exact IntWalk.i64_in _ (by omega)
  have v4 : IntKind.i64.wrap (1 + y4) = (q : Int) := by rw [hq]; exact IntWalk.i64_in _ (by omega)
  have v5 : IntKind.i64.wrap (1 + y5) = th := by rw [hth]; exact IntWalk.i64_in _ (by omega)
  obtain ⟨id, hid⟩ : ∃ x, nmK (k : Int) = x := ⟨_, rfl⟩
  have hidok : IdOK (byts id) := by rw [← hid]; exact nmK_ok _
  have e0 : askL s l = askF s a0 id x1 x2 := by unfold askL; rw [hx0, hx1, hx2, ha0, hk, hid]
  rw [e0]
  obtain ⟨RS, hRS⟩ : ∃ R, askF s a0 id x1 x2 = R := ⟨_, rfl⟩
  rw [hRS]
  have HRS := Lib.hid hRS
  clear hRS
  rw [ha0] at d0
  rw [hk] at d1
  have HAt := Lib.hid (fun (i : Nat) x bx w' hc hr hi hx => at_ok i bx n cap A l x w' hc hr hi hx)
  have HX0 := Lib.hid hx0
  have HX1 := Lib.hid hx1
  have HX2 := Lib.hid hx2
  have HA0 := Lib.hid ha0
  have HK := Lib.hid hk
  have HY3 := Lib.hid hy3
  have HY4 := Lib.hid hy4
  have HY5 := Lib.hid hy5
  have HTk := Lib.hid (fun w' (h : NRep w' b s f) => atick (g := g) w' h ok.pre (by omega) hT)
  have HHr := Lib.hid (fun w' (h : NRep w' b s f) => ahear (q := (q : Int)) w' h ok.pre.ok hidok (by omega))
  rw [show ((q : Int)).toNat = q by omega] at HHr
  have HEn := Lib.hid (fun w' => encode_ok id 0 q w' ⟨hidok, by omega, by omega, by omega⟩)
  have HJn := Lib.hid (fun w' (h : NRep w' b s f) => ajoin (id := id) (th := th) w' h ok.pre.ok (by omega))
  have HPt := Lib.hid (fun w' (h : NRep w' b s f) => apart (id := id) (th := th) w' h ok.pre.ok)
  have HBt := Lib.hid (fun w' (h : NRep w' b s f) => nhear_text b s f (⟨#[72]⟩ ++ id) 3 w' h ok.pre.ok (by omega) (fun w'' => by rw [← hid]; exact bad_text _ _))
  have hfl := Lib.hid h.lt
  have HSz := Lib.hid (show (⟨#[72]⟩ : ByteArray).size + id.size ≤ 9223372036854775807 by have := hidok.2.1; rw [byts_len] at this; have h1 : (⟨#[72]⟩ : ByteArray).size = 1 := rfl; omega)
  have HG := Lib.hid (And.intro (show 1 + within x1 60 = g by rw [hy3, hg]) (And.intro (show 1 + within x2 30 = (q : Int) by rw [hy4, hq]) (show 1 + within x2 12 = th by rw [hy5, hth])))
  obtain ⟨tx, htx⟩ : ∃ t, mkB (encL (byts id) 0 q) = t := ⟨_, rfl⟩
  rw [htx] at HHr HEn
  have HRow := Lib.hid hr
  have HRep := Lib.hid h
  have strs : ∀ w' : World, ∀ j : Nat, j < 4 → ((w'.alloc (.cells #[.string ⟨#[98]⟩, .string ⟨#[99]⟩, .string ⟨#[100]⟩, .string ⟨#[101]⟩] 9)).cell? ⟨w'.heap.size, j, none⟩ = some (.string (nmK (j : Int)))) := fun w' j hj => by
    rcases (show j = 0 ∨ j = 1 ∨ j = 2 ∨ j = 3 by omega) with rfl | rfl | rfl | rfl <;> simp [alloc_cells] <;> rfl
  have HStr := Lib.hid (fun w' => strs w' k (by omega))
  rw [hid] at HStr
  have k4 : k < 4 := by omega
  have k4' : (k : Int) < 4 := by omega
  clear h ok hr hx0 hx1 hx2 ha0 hk hy3 hy4 hy5 hg hq hth hid hidok e0 strs htx d3 d4 d5
  have qa := alloc_cells
  have qf := alloc_frozens
  go_enter Tryz.func13, Tryz.ntmps13
  go_wp2_with fail
  have hb2 : Below w.heap.size w ((w.alloc (.cells #[.slice A n cap] 41)).alloc (.cells #[.string ⟨#[98]⟩, .string ⟨#[99]⟩, .string ⟨#[100]⟩, .string ⟨#[101]⟩] 9)) := (by repeat (first | (with_reducible exact Below.refl _ _) | ((with_reducible refine Below.alloc ?_ ?_ _); rotate_left; (next => ((try dsimp only); (try simp only [World.size_alloc, World.size_setCell, World.size_drew]); omega))) | ((with_reducible refine Below.setCell ?_ ?_ _); rotate_left; (next => ((try dsimp only); (try simp only [World.size_alloc, World.size_setCell, World.size_drew]); omega))) | (with_reducible refine Below.drew ?_) | (refine Below.trans ?_ (by assumption))))
  have cx : ((w.alloc (.cells #[.slice A n cap] 41)).alloc (.cells #[.string ⟨#[98]⟩, .string ⟨#[99]⟩, .string ⟨#[100]⟩, .string ⟨#[101]⟩] 9)).cell? ⟨w.heap.size, 0, none⟩ = some (.slice A n cap) := by simp [go_sem, ↓IntWalk.iteOmega, *]
  have st : ((w.alloc (.cells #[.slice A n cap] 41)).alloc (.cells #[.string ⟨#[98]⟩, .string ⟨#[99]⟩, .string ⟨#[100]⟩, .string ⟨#[101]⟩] 9)).cell? ⟨w.heap.size + 1, k, none⟩ = some (.string id) := by have := HStr.out (w.alloc (.cells #[.slice A n cap] 41)); simpa using this
  generalize ((w.alloc (.cells #[.slice A n cap] 41)).alloc (.cells #[.string ⟨#[98]⟩, .string ⟨#[99]⟩, .string ⟨#[100]⟩, .string ⟨#[101]⟩] 9)) = w2 at hb2 cx st ⊢
  have R2 := Lib.hid (HRep.out.below hb2)
  have I2 := Lib.hid (HRow.out.below hb2)
  have B2 := Lib.hid hb2
  have z2 := hb2.size
  clear hb2 qa qf
  refine (HAt.out 1 x1 w.heap.size w2 cx I2.out (by omega) HX1.out).mono ?_
  rintro e w' ⟨rfl, rfl⟩
  go_wp2_with fail
  refine (within_same x1 4 k w2 (by omega) (by omega) HK.out).mono ?_
  rintro e w' ⟨rfl, rfl⟩
  go_wp2_with fail
  refine (HAt.out 0 x0 w.heap.size w2 cx I2.out (by omega) HX0.out).mono ?_
  rintro e w' ⟨rfl, rfl⟩
  go_wp2_with fail
  refine (within_same x0 5 a0 w2 (by omega) (by omega) HA0.out).mono ?_
  rintro e w' ⟨rfl, rfl⟩
  have KB := Lib.hid (fun w' (k : Kept f w2 w') => (Kept.of_below (f := f) B2.out).trans k (fun x _ hx => hx))
  have EX := Lib.hid (fun m (hm : w2.heap.size ≤ m) x (hx : ext f w2.heap.size m x) => (show ext f w.heap.size m x from hx.elim .inl (fun h => .inr ⟨by omega, h.2⟩)))
  have EY := Lib.hid (fun (w' : World) m (hm : m ≤ w'.heap.size) (hz : w.heap.size ≤ w'.heap.size) x (hx : ext f w.heap.size m x) => (show x < w'.heap.size from hx.elim (fun h => Nat.lt_of_lt_of_le (hfl.out x h) hz) (fun h => by omega)))
  by_cases c0 : a0 = 0
  · subst c0
    have HEf := Lib.hid (show RS = tickF s g by rw [← HRS.out]; unfold askF; rw [if_pos rfl, HG.out.1])
    go_wp2_with fail
    refine (HAt.out 1 x1 w.heap.size w2 cx I2.out (by omega) HX1.out).mono ?_
    rintro e w' ⟨rfl, rfl⟩
    go_wp2_with fail
    refine (within_same x1 60 y3 w2 (by omega) (by omega) HY3.out).mono ?_
    rintro e w' ⟨rfl, rfl⟩
    go_wp2_with fail
    refine (HTk.out w2 R2.out).mono ?_
    rintro e w3 ⟨v, A', c', m, rfl, _, _, own, rep, kept⟩
    have O3 := Lib.hid own
    have R3 := Lib.hid rep
    have K3 := Lib.hid (KB.out w3 kept)
    have z3 := kept.size
    clear own rep kept
    go_wp2_with fail
    go_ret
    rw [HEf.out]
    exact ⟨A', c', w2.heap.size, rfl, O3.out, R3.out.imp (fun x hx => .inl hx) (EY.out w3 _ (by omega) (by omega)), by omega, by omega, K3.out⟩
  · by_cases c1 : a0 = 1
    · subst c1
      have HEf := Lib.hid (show RS = hearF s id q by rw [← HRS.out]; unfold askF; rw [if_neg (by omega), if_pos rfl, HG.out.2.1])
      clear c0
      go_wp2_with fail
      refine (HAt.out 2 x2 w.heap.size w2 cx I2.out (by omega) HX2.out).mono ?_
      rintro e w' ⟨rfl, rfl⟩
      go_wp2_with fail
      refine (within_same x2 30 y4 w2 (by omega) (by omega) HY4.out).mono ?_
      rintro e w' ⟨rfl, rfl⟩
      go_wp2_with fail
      refine (HEn.out w2).mono ?_
      rintro e w3 ⟨rfl, hb3⟩
      have R3 := Lib.hid (R2.out.below hb3)
      have HB3 := Lib.hid hb3
      have z3 := hb3.size
      clear hb3
      go_wp2_with fail
      refine (HHr.out w3 R3.out).mono ?_
      rintro e w4 ⟨A', c', m, e0, rfl, own, rep, hm, hm2, kept, hxx⟩
      clear hxx
      have O4 := Lib.hid own
      have R4 := Lib.hid rep
      have K4 := Lib.hid (KB.out w4 ((Kept.of_below (f := f) HB3.out).trans kept (fun x _ hx => hx)))
      have z4 := kept.size
      clear own rep kept
      go_wp2_with fail
      go_ret
      rw [HEf.out]
      exact ⟨A', c', m, rfl, O4.out, R4.out.imp (fun x hx => hx.elim .inl (fun h => .inr ⟨by omega, h.2⟩)) (EY.out w4 _ (by omega) (by omega)), by omega, hm2, K4.out⟩
    · have n0 : (a0 == 0) = false := by simp; omega
      have n1 : (a0 == 1) = false := by simp; omega
      by_cases c2 : a0 = 2
      · subst c2
        have HEf := Lib.hid (show RS = joinF s id th by rw [← HRS.out]; unfold askF; rw [if_neg (by omega), if_neg (by omega), if_pos rfl, HG.out.2.2])
        clear c0 c1 n0 n1
        go_wp2_with fail
        refine (HAt.out 2 x2 w.heap.size w2 cx I2.out (by omega) HX2.out).mono ?_
        rintro e w' ⟨rfl, rfl⟩
        go_wp2_with fail
        refine (within_same x2 12 y5 w2 (by omega) (by omega) HY5.out).mono ?_
        rintro e w' ⟨rfl, rfl⟩
        go_wp2_with fail
        refine (HJn.out w2 R2.out).mono ?_
        rintro e w4 ⟨A', c', m, e0, rfl, own, rep, hm, hm2, kept, hxx⟩
        clear hxx
        have O4 := Lib.hid own
        have R4 := Lib.hid rep
        have K4 := Lib.hid (KB.out w4 kept)
        have z4 := kept.size
        clear own rep kept
        go_wp2_with fail
        go_ret
        rw [HEf.out]
        exact ⟨A', c', m, rfl, O4.out, R4.out.imp (fun x hx => hx.elim .inl (fun h => .inr ⟨by omega, h.2⟩)) (EY.out w4 _ (by omega) (by omega)), by omega, hm2, K4.out⟩
      · by_cases c3 : a0 = 3
        · subst c3
          have HEf := Lib.hid (show RS = partF s id th by rw [← HRS.out]; unfold askF; rw [if_neg (by omega), if_neg (by omega), if_neg (by omega), if_pos rfl, HG.out.2.2])
          have HN := Lib.hid (show (partF s id th).2 = [] by unfold partF; split <;> rfl)
          clear c0 c1 c2 n0 n1
          go_wp2_with fail
          refine (HAt.out 2 x2 w.heap.size w2 cx I2.out (by omega) HX2.out).mono ?_
          rintro e w' ⟨rfl, rfl⟩
          go_wp2_with fail
          refine (within_same x2 12 y5 w2 (by omega) (by omega) HY5.out).mono ?_
          rintro e w' ⟨rfl, rfl⟩
          go_wp2_with fail
          refine (HPt.out w2 R2.out).mono ?_
          rintro e w4 ⟨e0, rfl, rep, kept, hxx⟩
          have R4 := Lib.hid rep
          have K4 := Lib.hid (KB.out w4 kept)
          have z4 := kept.size
          clear rep kept hxx
          go_wp2_with fail
          go_ret
          rw [HEf.out, HN.out]
          exact ⟨none, 0, w2.heap.size, rfl, own_nil _ _ _, R4.out.imp (fun x hx => .inl hx) (EY.out w4 _ (by omega) (by omega)), by omega, by omega, K4.out⟩
        · have n2 : (a0 == 2) = false := by simp; omega
          have n3 : (a0 == 3) = false := by simp; omega
          have HEf := Lib.hid (show RS = (dropQ s, []) by rw [← HRS.out]; unfold askF; rw [if_neg c0, if_neg c1, if_neg c2, if_neg c3])
          have hsz := HSz.out
          clear c0 c1 c2 c3 d0
          go_wp2_with fail
          refine (HBt.out w2 R2.out).mono ?_
          rintro e w4 ⟨rfl, rep, kept⟩
          have R4 := Lib.hid rep
          have K4 := Lib.hid (KB.out w4 kept)
          have z4 := kept.size
          clear rep kept
          go_wp2_with fail
          go_ret
          rw [HEf.out]
          exact ⟨none, 0, w2.heap.size, rfl, own_nil _ _ _, R4.out.imp (fun x hx => .inl hx) (EY.out w4 _ (by omega) (by omega)), by omega, by omega, K4.out⟩
end Go.Proofs.YtpomdnglknbanaaGreat
namespace Go.Proofs.YtpomdnglknbanaaGreat
open Go Go.RowKit
instance : Inhabited Note := ⟨⟨⟨#[]⟩, 0, false⟩⟩
def NoteAt (w : World) (b o : Nat) (x : Note) : Prop :=
  w.cell? ⟨b, o, none⟩ = some (.string x.id) ∧ w.cell? ⟨b, o + 1, none⟩ = some (.int .i64 x.theta) ∧ w.cell? ⟨b, o + 2, none⟩ = some (.bool x.sus)
theorem notesC_get : ∀ (L : List Note) (k i : Nat), k < L.length → i < 3 → (notesC L)[k * 3 + i]? = (noteC (L.getD k default))[i]?
  | [], k, i, h, _ => by simp at h
  | s :: L, 0, i, _, hi => by
    show (noteC s ++ notesC L)[0 * 3 + i]? = _
    rw [List.getElem?_append_left (by simp [noteC]; omega)]
    simp
  | s :: L, k + 1, i, h, hi => by
    show (noteC s ++ notesC L)[(k + 1) * 3 + i]? = _
    rw [List.getElem?_append_right (by simp [noteC]; omega), show (k + 1) * 3 + i - (noteC s).length = k * 3 + i by simp [noteC]; omega, notesC_get L k i (by simpa using h) hi]
    simp
def NoteRow (w : World) (A : Option Addr) (n : Nat) (L : List Note) : Prop :=
  L.length = n ∧ (0 < n → ∃ b off, A = some ⟨b, off, none⟩ ∧ b < w.heap.size ∧ ∀ k, k < n → NoteAt w b (off + k * 3) (L.getD k default))
theorem NoteRow.below {w w' : World} {A : Option Addr} {n : Nat} {L : List Note} (h : NoteRow w A n L) (hb : Below w.heap.size w w') : NoteRow w' A n L := by
  refine ⟨h.1, fun h0 => ?_⟩
  obtain ⟨b, off, hA, lb, hp⟩ := h.2 h0
  refine ⟨b, off, hA, Nat.lt_of_lt_of_le lb hb.size, fun k hk => ?_⟩
  obtain ⟨a1, a2, a3⟩ := hp k hk
  exact ⟨(hb.cell (p := ⟨b, _, none⟩) lb).trans a1, (hb.cell (p := ⟨b, _, none⟩) lb).trans a2, (hb.cell (p := ⟨b, _, none⟩) lb).trans a3⟩
theorem NoteRow.at {w : World} {A : Option Addr} {n : Nat} {L : List Note} (h : NoteRow w A n L) {k : Nat} (hk : k < n) : ∃ b off, A = some ⟨b, off, none⟩ ∧ b < w.heap.size ∧ NoteAt w b (off + k * 3) (L.getD k default) := by
  obtain ⟨b, off, hA, lb, hp⟩ := h.2 (by omega)
  exact ⟨b, off, hA, lb, hp k hk⟩
theorem noteRow_own {w : World} {base n c : Nat} {A : Option Addr} {L : List Note} (h : w.ownsRow base 46 3 (.slice A n c) n (notesC L)) (hn : L.length = n) : NoteRow w A n L := by
  refine ⟨hn, fun h0 => ?_⟩
  have h4 := h
  rcases h.2 with ⟨_, h0'⟩ | ⟨g, c', cur, he, _, hg, hnc, hcm, hcs, htk⟩
  · omega
  simp only [Value.slice.injEq] at he
  obtain ⟨rfl, _, rfl⟩ := he
  refine ⟨g, 0, rfl, (Array.getElem?_eq_some_iff.1 hg).1, fun k hk => ?_⟩
  have cell : ∀ i, i < 3 → w.cell? ⟨g, 0 + k * 3 + i, none⟩ = (noteC (L.getD k default))[i]? := fun i hi => by
    have hs := notesC_get L k i (by omega) hi
    have hi' : i < (noteC (L.getD k default)).length := by simpa [noteC] using hi
    have := h4.cells (g := g) rfl (k * 3 + i) ((noteC (L.getD k default))[i]) (by rw [hs, List.getElem?_eq_getElem hi'])
    rw [Go.WideShapes.add_plain, Nat.zero_add] at this
    rw [Nat.zero_add, this, List.getElem?_eq_getElem hi']
  exact ⟨cell 0 (by omega), cell 1 (by omega), cell 2 (by omega)⟩
theorem getD_mem {α : Type} {L : List α} {k : Nat} {d : α} (hk : k < L.length) : L.getD k d ∈ L := by
  rw [List.getD_eq_getElem?_getD, List.getElem?_eq_getElem hk]; exact List.getElem_mem _
theorem askL_ask (s : NSt) (l : List Int) : Ask s (within (l.getD 0 0) 5) (nmK (within (l.getD 1 0) 4)) (askL s l).1 (askL s l).2 := ask_cases _ _ _ _ _
theorem askL_ok {E L T : Int} {s : NSt} (h : AOK E L T s) (hT : T ≤ 1000000) (l : List Int) : AOK E L (T + 60) (askL s l).1 := h.ask (nmK_ok _) hT (askL_ask s l)
theorem rows_at {w : World} {a : Option Addr} {n : Nat} {Z : List (List Int)} (h : IsRows w a n Z) {k : Nat} (hk : k < n) {wr : World} (bel : Below w.heap.size w wr) :
    ∃ b off A C, a = some ⟨b, off, none⟩ ∧ wr.cell? ⟨b, off + k, none⟩ = some (.slice A (Z.getD k []).length C) ∧ InRow wr A (Z.getD k []).length C (Z.getD k []) := by
  obtain ⟨b, off, A, C, h1, h2, h3, h4⟩ := h.2 k hk
  exact ⟨b, off, A, C, h1, (bel.cell (p := ⟨b, off + k, none⟩) h2).trans h3, h4.below bel⟩
theorem own_le {w : World} {base t s n c : Nat} {A : Option Addr} {xs : List Value} (h : w.ownsRow base t s (.slice A n c) n xs) : n ≤ 9223372036854775807 := by
  obtain ⟨A', c', e, h1, h2, _⟩ := own_form h
  unfold maxLen at h2
  omega
theorem nm_list {q : Nat} {id : ByteArray} (hq : q < 4) (hid : nmK (q : Int) = id) : [Value.string ⟨#[98]⟩, Value.string ⟨#[99]⟩, Value.string ⟨#[100]⟩, Value.string ⟨#[101]⟩][q] = Value.string id := by
  subst hid
  rcases (show q = 0 ∨ q = 1 ∨ q = 2 ∨ q = 3 by omega) with rfl | rfl | rfl | rfl <;> simp [nmK, nB, nC, nD, nE]
end Go.Proofs.YtpomdnglknbanaaGreat
