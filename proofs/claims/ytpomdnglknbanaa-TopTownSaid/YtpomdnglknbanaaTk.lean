/-
  A town in plain Lean: what holds of its nodes and of what is under way, whatever is asked of it.
-/
import Derived.Test.YtpomdnglknbanaaTi
set_option linter.unusedSimpArgs false
set_option linter.unusedVariables false
namespace Go.Proofs.Ytpomdnglknbanaa
open Go Go.RowKit
def nmT (k : Nat) : ByteArray := if k = 0 then nA else if k = 1 then nB else nC
theorem nmT_ok (k : Nat) : IdOK (byts (nmT k)) := by
  unfold nmT
  split
  · exact nA_ok
  · split
    · exact nB_ok
    · exact nC_ok
theorem nmT_inj {i j : Nat} (hi : i < 3) (hj : j < 3) (h : nmT i = nmT j) : i = j := by
  have ab : nA ≠ nB := by decide
  have ac : nA ≠ nC := by decide
  have bc : nB ≠ nC := by decide
  rcases (show i = 0 ∨ i = 1 ∨ i = 2 by omega) with rfl | rfl | rfl <;> rcases (show j = 0 ∨ j = 1 ∨ j = 2 by omega) with rfl | rfl | rfl <;> first | rfl | exact absurd h ab | exact absurd h ac | exact absurd h bc | exact absurd h.symm ab | exact absurd h.symm ac | exact absurd h.symm bc
/-- What a node knows of another. -/
def prT (s : NSt) (id : ByteArray) : Peer := s.peers.getD (pos s.peers id) default
/-- What holds of a town. -/
structure TOK (n : Nat) (E : Nat → Int) (T : Int) (S : TSt) : Prop where
  n3 : n ≤ 3
  sn : S.n = n
  tn : ∀ i, i < n → TN (S.nd i)
  id : ∀ i, i < n → (S.nd i).id = nmT i
  every : ∀ i, i < n → (S.nd i).every = E i
  now : ∀ i, i < n → (S.nd i).now ≤ T
  knows : ∀ i j, i < n → j < n → has (S.nd i).peers (nmT j) = decide (i ≠ j)
  peer : ∀ i j, i < n → j < n → i ≠ j → (prT (S.nd i) (nmT j)).inc = 0 ∧ 0 ≤ (prT (S.nd i) (nmT j)).seq ∧ (prT (S.nd i) (nmT j)).seq ≤ (S.nd j).seq
  way : ∀ x, x ∈ S.way → ∃ j q, j < n ∧ 1 ≤ q ∧ q ≤ (S.nd j).seq ∧ x = mkB (encL (byts (nmT j)) 0 q.toNat)
  len : S.way.length ≤ 1000
theorem prT_mem {s : NSt} {id : ByteArray} (h : has s.peers id = true) : prT s id ∈ s.peers ∧ (prT s id).id = id := by
  refine ⟨?_, has_id h⟩
  unfold prT
  rw [List.getD_eq_getElem?_getD, List.getElem?_eq_getElem (has_lt h)]
  exact List.getElem_mem _
theorem wpP_all {C : Nat → Cfg} {j : Nat} {p : Peer} : ∀ {k}, p ∈ wpP C j k → p.inc = 0 ∧ p.seq = 0 ∧ p.last = 0 ∧ ∃ i, i < k ∧ i ≠ j ∧ p.id = (C i).id ∧ p.vals = [(C i).every]
  | 0, h => by cases h
  | k + 1, h => by
    unfold wpP at h
    split at h
    · obtain ⟨h1, h2, h3, i, h4, h5⟩ := wpP_all h
      exact ⟨h1, h2, h3, i, by omega, h5⟩
    · rename_i hk
      rcases addS_mem.1 h with rfl | h
      · exact ⟨rfl, rfl, rfl, k, by omega, hk, rfl, rfl⟩
      · obtain ⟨h1, h2, h3, i, h4, h5⟩ := wpP_all h
        exact ⟨h1, h2, h3, i, by omega, h5⟩
theorem wpP_in {C : Nat → Cfg} {j i : Nat} (hne : i ≠ j) : ∀ {k}, i < k → ∃ p ∈ wpP C j k, p.id = (C i).id
  | 0, h => by omega
  | k + 1, h => by
    unfold wpP
    by_cases e : k = j
    · rw [if_pos e]
      exact wpP_in hne (by omega)
    · rw [if_neg e]
      by_cases e2 : i = k
      · subst e2
        exact ⟨_, addS_mem.2 (.inl rfl), rfl⟩
      · obtain ⟨p, hp, he⟩ := wpP_in (C := C) (j := j) hne (k := k) (by omega)
        exact ⟨p, addS_mem.2 (.inr hp), he⟩
theorem tok_start {n : Nat} {C : Nat → Cfg} (h3 : n ≤ 3) (hC : ∀ j, j < n → CfgOK (C j)) (hid : ∀ j, j < n → (C j).id = nmT j) : TOK n (fun j => (C j).every) 0 (stN C n n 0) := by
  have hne : ∀ i j, i < n → j < n → (C i).id = (C j).id → i = j := fun i j hi hj h => nmT_inj (by omega) (by omega) (by rw [← hid i hi, ← hid j hj, h])
  have tn : ∀ i, i < n → TN (wpS C i n) := fun i hi => wpS_tn (by omega) hC hne hi
  have kn : ∀ i j, i < n → j < n → has (wpP C i n) (nmT j) = decide (i ≠ j) := fun i j hi hj => by
    have ord := (tn i hi).ok.tab.order
    by_cases e : i = j
    · subst e
      rw [show decide (i ≠ i) = false by simp]
      cases hh : has (wpP C i n) (nmT i) with
      | false => rfl
      | true =>
        obtain ⟨p, hp, he⟩ := (has_iff ord _).1 hh
        obtain ⟨k, hk1, hk2, hk3⟩ := wpP_mem hp
        have := hne k i hk1 hi (by rw [← hk3, he, hid i hi])
        omega
    · rw [show decide (i ≠ j) = true by simp [e]]
      obtain ⟨p, hp, he⟩ := wpP_in (C := C) (j := i) (i := j) (fun h => e h.symm) hj
      exact (has_iff ord _).2 ⟨p, hp, by rw [he, hid j hj]⟩
  refine ⟨h3, rfl, fun i hi => ?_, fun i hi => ?_, fun i hi => ?_, fun i hi => ?_, fun i j hi hj => ?_, fun i j hi hj hij => ?_, fun x hx => (by cases hx), by show (0 : Nat) ≤ 1000; omega⟩
  · rw [stN_nd C hi]; exact tn i hi
  · rw [stN_nd C hi]; exact hid i hi
  · rw [stN_nd C hi]; rfl
  · rw [stN_nd C hi]; exact Int.le_refl _
  · rw [stN_nd C hi]; exact kn i j hi hj
  · rw [stN_nd C hi, stN_nd C hj]
    have hh : has (wpS C i n).peers (nmT j) = true := by
      have := kn i j hi hj
      rw [show decide (i ≠ j) = true by simp [hij]] at this
      exact this
    obtain ⟨h1, h2, _⟩ := wpP_all (prT_mem hh).1
    exact ⟨h1, by rw [h2]; exact Int.le_refl _, by rw [h2]; exact (tn j hj).ok.seq.1⟩
section
variable {n : Nat} {E : Nat → Int} {T g : Int} {S : TSt}
theorem TOK.tickOK (h : TOK n E T S) (hg : 1 ≤ g ∧ g ≤ 1000) (hT : T + g ≤ 1073741824) (hE : ∀ i, i < n → g / E i < 64) : TickOK S g :=
  ⟨by have := h.n3; have := h.sn; omega, hg, fun j hj => h.tn j (by have := h.sn; omega), fun j hj _ => ⟨by have := h.now j (by have := h.sn; omega); omega, by rw [h.every j (by have := h.sn; omega)]; exact hE j (by have := h.sn; omega)⟩, h.len⟩
theorem tk_live {j : Nat} (hd : S.dead j = false) : tkN S g j = (tickF (S.nd j) g).1 := by unfold tkN; rw [hd]; rfl
theorem tk_dead {j : Nat} (hd : S.dead j = true) : tkN S g j = S.nd j := by unfold tkN; rw [if_pos hd]
theorem twS_nd {k j : Nat} (hj : j < k) : (twS S g k).nd j = tkN S g j := by show (if j < k then _ else _) = _; rw [if_pos hj]
theorem tk_peers (j : Nat) : (tkN S g j).peers = (S.nd j).peers := by
  cases hd : S.dead j with
  | false => rw [tk_live hd]; rfl
  | true => rw [tk_dead hd]
theorem TN.seq_tick {s : NSt} (h : TN s) (hg : 1 ≤ g) : s.seq ≤ (s.now + g) / s.every := by
  rw [h.seq]
  exact Int.ediv_le_ediv (by have := h.ok.every; omega) (by omega)
theorem TOK.seq_le (h : TOK n E T S) (hg : 1 ≤ g) {j : Nat} (hj : j < n) : (S.nd j).seq ≤ (tkN S g j).seq := by
  cases hd : S.dead j with
  | true => rw [tk_dead hd]; exact Int.le_refl _
  | false => rw [tk_live hd]; exact (h.tn j hj).seq_tick hg
theorem TOK.tick (h : TOK n E T S) (hg : 1 ≤ g ∧ g ≤ 1000) (hT : T + g ≤ 1073741824) (hw : S.way.length + sumM S g n ≤ 1000) : TOK n E (T + g) (twS S g n) := by
  have sq := fun j (hj : j < n) => h.seq_le hg.1 hj
  refine ⟨h.n3, h.sn, fun i hi => ?_, fun i hi => ?_, fun i hi => ?_, fun i hi => ?_, fun i j hi hj => ?_, fun i j hi hj hij => ?_, fun x hx => ?_, by rw [sumM_way]; exact hw⟩
  · rw [twS_nd hi]
    cases hd : S.dead i with
    | true => rw [tk_dead hd]; exact h.tn i hi
    | false => rw [tk_live hd]; exact ((h.tn i hi).tick hg.1 (by have := h.now i hi; omega)).tell
  · rw [twS_nd hi]
    cases hd : S.dead i with
    | true => rw [tk_dead hd]; exact h.id i hi
    | false => rw [tk_live hd]; exact h.id i hi
  · rw [twS_nd hi]
    cases hd : S.dead i with
    | true => rw [tk_dead hd]; exact h.every i hi
    | false => rw [tk_live hd]; exact h.every i hi
  · rw [twS_nd hi]
    have := h.now i hi
    cases hd : S.dead i with
    | true => rw [tk_dead hd]; omega
    | false => rw [tk_live hd]; show (S.nd i).now + g ≤ _; omega
  · rw [twS_nd hi, tk_peers]; exact h.knows i j hi hj
  · rw [twS_nd hi, twS_nd hj]
    unfold prT
    rw [tk_peers]
    obtain ⟨h1, h2, h3⟩ := h.peer i j hi hj hij
    exact ⟨h1, h2, Int.le_trans h3 (sq j hj)⟩
  · have hx' : x ∈ S.way ++ (List.range n).flatMap (txN S g) := hx
    rcases List.mem_append.1 hx' with hx | hx
    · obtain ⟨j, q, hj, h1, h2, h3⟩ := h.way x hx
      exact ⟨j, q, hj, h1, by rw [twS_nd hj]; exact Int.le_trans h2 (sq j hj), h3⟩
    · obtain ⟨j, hj, hx⟩ := List.mem_flatMap.1 hx
      have hj := List.mem_range.1 hj
      cases hd : S.dead j with
      | true => unfold txN at hx; rw [if_pos hd] at hx; cases hx
      | false =>
        unfold txN at hx
        rw [hd] at hx
        have hx : x ∈ sentB (S.nd j).id 0 ((S.nd j).now / (S.nd j).every).toNat (mT (S.nd j) g) := hx
        obtain ⟨k, hk, rfl⟩ := List.mem_map.1 hx
        have hk := List.mem_range.1 hk
        unfold mT at hk
        have nw := (h.tn j hj).ok.now
        have ev := (h.tn j hj).ok.every
        have s0 := Go.Proofs.Ytpomdnglknbanaa.seq_le (n := (S.nd j).now) (E := (S.nd j).every) (by omega) ev.1
        refine ⟨j, (((S.nd j).now / (S.nd j).every).toNat + 1 + k : Nat), hj, by omega, ?_, ?_⟩
        · rw [twS_nd hj, tk_live hd]
          show _ ≤ ((S.nd j).now + g) / (S.nd j).every
          omega
        · rw [h.id j hj]
          rfl
theorem TOK.later (h : TOK n E T S) {T' : Int} (hT : T ≤ T') : TOK n E T' S := ⟨h.n3, h.sn, h.tn, h.id, h.every, fun i hi => Int.le_trans (h.now i hi) hT, h.knows, h.peer, h.way, h.len⟩
theorem TOK.stop (h : TOK n E T S) (i : Nat) : TOK n E T (stopN S i) := ⟨h.n3, h.sn, h.tn, h.id, h.every, h.now, h.knows, h.peer, h.way, h.len⟩
theorem TOK.lose (h : TOK n E T S) {L : List ByteArray} (hm : ∀ x, x ∈ L → x ∈ S.way) (hl : L.length ≤ S.way.length) : TOK n E T (wayN S L) := ⟨h.n3, h.sn, h.tn, h.id, h.every, h.now, h.knows, h.peer, fun x hx => h.way x (hm x hx), Nat.le_trans hl h.len⟩

/-! One node hears. -/
variable {s : NSt} {id : ByteArray} {q : Int}
theorem hearF_no (h : has s.peers id = false) : hearF s id q = (dropQ s, []) := by unfold hearF; rw [if_neg (by rw [h]; simp)]
theorem hearF_old (h : has s.peers id = true) (hn : newB s id q = false) : hearF s id q = (dropQ (hearQ s id q), []) := by unfold hearF; rw [if_pos h, if_neg (by rw [hn]; simp)]
theorem hearF_new (h : has s.peers id = true) (hn : newB s id q = true) : hearF s id q = (tellS (hearQ s id q), toldN (hearQ s id q)) := by unfold hearF; rw [if_pos h, if_pos hn]
theorem newB_iff (h : (prT s id).inc = 0) : newB s id q = decide ((prT s id).seq < q) := by
  show newer (prT s id) 0 q = _
  unfold newer
  rw [h]
  simp
theorem hearF_peers (h : has s.peers id = true) : (hearF s id q).1.peers = hearS s.peers id 0 q s.now := by
  cases hn : newB s id q with
  | true => rw [hearF_new h hn]; rfl
  | false => rw [hearF_old h hn]; rfl
theorem hearF_same : (hearF s id q).1.id = s.id ∧ (hearF s id q).1.inc = s.inc ∧ (hearF s id q).1.every = s.every ∧ (hearF s id q).1.now = s.now ∧ (hearF s id q).1.seq = s.seq ∧ (hearF s id q).1.least = s.least := by
  unfold hearF
  split
  · split <;> exact ⟨rfl, rfl, rfl, rfl, rfl, rfl⟩
  · exact ⟨rfl, rfl, rfl, rfl, rfl, rfl⟩
theorem hearF_ids : (hearF s id q).1.peers.map (·.id) = s.peers.map (·.id) := by
  cases h : has s.peers id with
  | false => rw [hearF_no h]; rfl
  | true => rw [hearF_peers h]; exact hearS_ids _ _ _ _ _
theorem hearF_has (x : ByteArray) : has (hearF s id q).1.peers x = has s.peers x := has_ids hearF_ids x
/-- What is known of whom behind it. -/
theorem prT_hear (h : has s.peers id = true) {x : ByteArray} (hx : has s.peers x = true) : prT (hearF s id q).1 x = if x = id then heardP (prT s id) 0 q s.now else prT s x := by
  unfold prT
  rw [hearF_peers h, pos_ids (hearS_ids ..), hearS_get h]
  by_cases e : x = id
  · subst e
    rw [if_pos rfl, if_pos rfl]
  · rw [if_neg e, if_neg (fun e2 => e (by rw [← has_id hx, e2, has_id h]))]
theorem TN.hear (h : TN s) (hid : IdOK (byts id)) (hq : 1 ≤ q ∧ q < 2147483648) : TN (hearF s id q).1 := by
  have eq : ((q.toNat : Nat) : Int) = q := by omega
  have dr : ∀ {t : NSt}, NOK t → NOK (dropQ t) := fun {t} k => by
    have h2 := more_bd k.drops.1
    exact ⟨k.id, k.inc, k.every, k.cap, k.least, k.now, k.seq, ⟨h2.1, h2.2.1⟩, k.tab, k.wins, k.subs⟩
  obtain ⟨_, e2, e3, e4, e5, _⟩ := hearF_same (s := s) (id := id) (q := q)
  refine ⟨?_, by rw [e2]; exact h.inc, by rw [e5, e4, e3]; exact h.seq⟩
  cases hh : has s.peers id with
  | false => rw [hearF_no hh]; exact dr h.ok
  | true =>
    have hb := h.ok.hears (i := 0) (q := q.toNat) ⟨hid, by omega, by omega, by omega⟩ hh
    rw [eq] at hb
    have k : NOK (hearQ s id q) := h.ok.hear hb
    cases hn : newB s id q with
    | true => rw [hearF_new hh hn]; exact k.tell
    | false => rw [hearF_old hh hn]; exact dr k
/-- A text is brought. -/
theorem TOK.text (h : TOK n E T S) (hT : T ≤ 1073741824) {i : Nat} (hi : i < S.way.length) : ∃ j q, j < n ∧ 1 ≤ q ∧ q < 2147483648 ∧ q ≤ (S.nd j).seq ∧ S.way.getD i ⟨#[]⟩ = mkB (encL (byts (nmT j)) 0 q.toNat) := by
  have hm : S.way.getD i ⟨#[]⟩ ∈ S.way := getD_mem hi
  obtain ⟨j, q, hj, h1, h2, h3⟩ := h.way _ hm
  have := (h.tn j hj).ok.seq
  have := (h.tn j hj).ok.now
  exact ⟨j, q, hj, h1, by omega, h2, h3⟩
theorem setN_at (S : TSt) (u : Nat) (s : NSt) : (setN S u s).nd u = s := by show (if u = u then _ else _) = _; rw [if_pos rfl]
theorem setN_ne (S : TSt) {u i : Nat} (s : NSt) (h : i ≠ u) : (setN S u s).nd i = S.nd i := by show (if i = u then _ else _) = _; rw [if_neg h]
theorem setN_seq {u j i : Nat} : ((setN S u (hearF (S.nd u) (nmT j) q).1).nd i).seq = (S.nd i).seq := by
  by_cases e : i = u
  · subst e; rw [setN_at]; exact hearF_same.2.2.2.2.1
  · rw [setN_ne _ _ e]
theorem TOK.bring (h : TOK n E T S) {u j : Nat} (hu : u < n) (hj : j < n) (hq : 1 ≤ q ∧ q < 2147483648) (hs : q ≤ (S.nd j).seq) : TOK n E T (setN S u (hearF (S.nd u) (nmT j) q).1) := by
  obtain ⟨e1, e2, e3, e4, e5, e6⟩ := hearF_same (s := S.nd u) (id := nmT j) (q := q)
  have sq : ∀ i, ((setN S u (hearF (S.nd u) (nmT j) q).1).nd i).seq = (S.nd i).seq := fun i => setN_seq
  refine ⟨h.n3, h.sn, fun i hi => ?_, fun i hi => ?_, fun i hi => ?_, fun i hi => ?_, fun i k hi hk => ?_, fun i k hi hk hik => ?_, fun x hx => ?_, h.len⟩
  · by_cases e : i = u
    · subst e; rw [setN_at]; exact (h.tn i hi).hear (nmT_ok j) hq
    · rw [setN_ne _ _ e]; exact h.tn i hi
  · by_cases e : i = u
    · subst e; rw [setN_at, e1]; exact h.id i hi
    · rw [setN_ne _ _ e]; exact h.id i hi
  · by_cases e : i = u
    · subst e; rw [setN_at, e3]; exact h.every i hi
    · rw [setN_ne _ _ e]; exact h.every i hi
  · by_cases e : i = u
    · subst e; rw [setN_at, e4]; exact h.now i hi
    · rw [setN_ne _ _ e]; exact h.now i hi
  · by_cases e : i = u
    · subst e; rw [setN_at, hearF_has]; exact h.knows i k hi hk
    · rw [setN_ne _ _ e]; exact h.knows i k hi hk
  · rw [sq]
    by_cases e : i = u
    · subst e
      rw [setN_at]
      have hx := h.knows i k hi hk
      rw [show decide (i ≠ k) = true by simp [hik]] at hx
      have hp := h.peer i k hi hk hik
      cases hh : has (S.nd i).peers (nmT j) with
      | false => rw [hearF_no hh]; exact hp
      | true =>
        rw [prT_hear hh hx]
        by_cases e2 : nmT k = nmT j
        · have := nmT_inj (by have := h.n3; omega) (by have := h.n3; omega) e2
          subst this
          rw [if_pos rfl]
          unfold heardP
          split
          · exact ⟨rfl, by show 0 ≤ q; omega, hs⟩
          · exact hp
        · rw [if_neg e2]; exact hp
    · rw [setN_ne _ _ e]; exact h.peer i k hi hk hik
  · obtain ⟨k, q', hk, h1, h2, h3⟩ := h.way x hx
    exact ⟨k, q', hk, h1, by rw [sq]; exact h2, h3⟩
/-- Nobody asked to be told. -/
def Mute (S : TSt) : Prop := ∀ i, (S.nd i).subs = []
theorem mute_start (C : Nat → Cfg) (n i k : Nat) : Mute (stN C n i k) := fun j => by
  show (if j < i then wpS C j n else if j = i then wpS C j k else wpS C j 0).subs = []
  split
  · rfl
  · split <;> rfl
theorem told_mute {t : NSt} (h : t.subs = []) : toldS t = [] ∧ toldN t = [] := by
  unfold toldS toldN
  rw [h]
  exact ⟨rfl, rfl⟩
theorem Mute.tick (h : Mute S) (k : Nat) : Mute (twS S g k) ∧ twN S g k = [] := by
  refine ⟨fun i => ?_, ?_⟩
  · show (if i < k then tkN S g i else S.nd i).subs = []
    split
    · cases hd : S.dead i with
      | true => rw [tk_dead hd]; exact h i
      | false => rw [tk_live hd]; exact (told_mute (t := tickS (S.nd i) g) (h i)).1
    · exact h i
  · unfold twN
    rw [List.flatMap_eq_nil_iff]
    intro i _
    unfold noN
    split
    · rfl
    · exact (told_mute (t := tickS (S.nd i) g) (h i)).2
theorem hear_mute (h : s.subs = []) : (hearF s id q).1.subs = [] ∧ (hearF s id q).2 = [] := by
  unfold hearF
  split
  · split
    · exact told_mute (t := hearQ s id q) h
    · exact ⟨h, rfl⟩
  · exact ⟨h, rfl⟩
theorem Mute.bring (h : Mute S) (u j : Nat) : Mute (setN S u (hearF (S.nd u) (nmT j) q).1) := fun i => by
  by_cases e : i = u
  · subst e; rw [setN_at]; exact (hear_mute (h i)).1
  · rw [setN_ne _ _ e]; exact h i
theorem Mute.lose (h : Mute S) (L : List ByteArray) : Mute (wayN S L) := h
theorem Mute.stop (h : Mute S) (i : Nat) : Mute (stopN S i) := h
/-- What was heard is not let through again. -/
theorem newB_again (h : has s.peers id = true) : newB (hearF s id q).1 id q = false := by
  show newer (prT (hearF s id q).1 id) 0 q = false
  rw [prT_hear h h, if_pos rfl]
  exact newer_heard _ _ _ _
/-- Heard twice: nothing is told, nobody is suspected more or less. -/
theorem hear_again : (hearF (hearF s id q).1 id q).2 = [] ∧ ∀ x, levN (hearF (hearF s id q).1 id q).1 x = levN (hearF s id q).1 x := by
  obtain ⟨t, ht⟩ : ∃ t, (hearF s id q).1 = t := ⟨_, rfl⟩
  rw [ht]
  cases h : has s.peers id with
  | false =>
    have h2 : has t.peers id = false := by rw [← ht, hearF_has]; exact h
    rw [hearF_no h2]
    exact ⟨rfl, fun x => rfl⟩
  | true =>
    have h2 : has t.peers id = true := by rw [← ht, hearF_has]; exact h
    have hn : newB t id q = false := by rw [← ht]; exact newB_again h
    rw [hearF_old h2 hn]
    exact ⟨rfl, fun x => lev_old h2 hn x⟩
end
/-! A town of two. -/
structure TwoT (E T : Int) (S : TSt) : Prop where
  tok : TOK 2 (fun _ => E) T S
  mute : Mute S
  dead : S.dead = fun _ => false
theorem twoT_start {E L : Int} (hE : 1 ≤ E ∧ E ≤ 50) (hL : 1 ≤ L ∧ L ≤ 50) : TwoT E 0 (twoS E E 4 L) := by
  have hC := (twoC_ok (z := 4) hE hE (by omega) hL).1
  have h := tok_start (n := 2) (C := twoC E E 4 L) (by omega) hC (fun j hj => by
    rcases (show j = 0 ∨ j = 1 by omega) with rfl | rfl <;> rfl)
  have he : (fun j => (twoC E E 4 L j).every) = fun _ => E := by
    funext j
    unfold twoC
    split <;> rfl
  rw [he] at h
  exact ⟨h, mute_start _ _ _ _, rfl⟩
section
variable {E T g : Int} {S : TSt}
theorem TwoT.tick (h : TwoT E T S) (hE : 1 ≤ E) (hg : 1 ≤ g ∧ g ≤ 60) (hT : T ≤ 1000000) : TickOK S g ∧ S.n = 2 ∧ (S.way.length + sumM S g 2 ≤ 1000 → TwoT E (T + g) (twS S g 2) ∧ twN S g 2 = []) := by
  have hge := seq_le (n := g) (E := E) (by omega) hE
  refine ⟨h.tok.tickOK (by omega) (by omega) (fun i hi => by show g / E < 64; omega), h.tok.sn, fun hw => ?_⟩
  obtain ⟨m1, m2⟩ := h.mute.tick (g := g) 2
  exact ⟨⟨h.tok.tick (by omega) (by omega) hw, m1, h.dead⟩, m2⟩
theorem TwoT.later (h : TwoT E T S) {T' : Int} (hT : T ≤ T') : TwoT E T' S := ⟨h.tok.later hT, h.mute, h.dead⟩
theorem TwoT.bring (h : TwoT E T S) {u j : Nat} {q : Int} (hu : u < 2) (hj : j < 2) (hq : 1 ≤ q ∧ q < 2147483648) (hs : q ≤ (S.nd j).seq) : TwoT E T (setN S u (hearF (S.nd u) (nmT j) q).1) :=
  ⟨h.tok.bring hu hj hq hs, h.mute.bring u j, h.dead⟩
theorem TwoT.lose (h : TwoT E T S) {L : List ByteArray} (hm : ∀ x, x ∈ L → x ∈ S.way) (hl : L.length ≤ S.way.length) : TwoT E T (wayN S L) := ⟨h.tok.lose hm hl, h.mute, h.dead⟩
end
end Go.Proofs.Ytpomdnglknbanaa
