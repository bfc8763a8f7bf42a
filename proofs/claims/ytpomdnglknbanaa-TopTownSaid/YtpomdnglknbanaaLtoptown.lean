import Derived.Test.YtpomdnglknbanaaTz
import Derived.Test.YtpomdnglknbanaaTn
import Derived.Test.YtpomdnglknbanaaTb
import Derived.Test.YtpomdnglknbanaaLs
import Derived.Deep.DeepCutAuto
set_option linter.unusedSimpArgs false
set_option linter.unusedVariables false
namespace Go.Proofs.Ytpomdnglknbanaa
open Go Go.RowKit Go.Maps
/-! A map of integers at keys that are two integers. -/
def MapN (k : TypeId) (w : World) (B n : Nat) (F : Value → Int) : Prop :=
  ∃ D : DataW Unit, w.ownsMap Try.prog k (plainElem Try.prog 3) B n D ∧ ∀ key l, keyOf Try.prog k key = some l → D.atKey l (.lit (.int .i64 0)) = .lit (.int .i64 (F key))
theorem MapN.made (k : TypeId) (w : World) : MapN k (w.alloc (.map #[] 0)) w.heap.size 0 (fun _ => 0) :=
  ⟨.map [], World.ownsMap_made _ _ _ _, fun _ _ _ => rfl⟩
theorem MapN.lt {k : TypeId} {w : World} {B n : Nat} {F : Value → Int} (h : MapN k w B n F) : B < w.heap.size := by obtain ⟨D, h1, _⟩ := h; exact h1.lt
theorem MapN.same {k : TypeId} {w w' : World} {B n : Nat} {F : Value → Int} (h : MapN k w B n F) (hs : w'.heap[B]? = w.heap[B]?) : MapN k w' B n F := by
  obtain ⟨D, ⟨es, clock, h1, h2⟩, h3⟩ := h
  exact ⟨D, ⟨es, clock, hs.trans h1, h2⟩, h3⟩
theorem MapN.look {k T : TypeId} {w : World} {B n : Nat} {F : Value → Int} (h : MapN k w B n F) (K : Keyed Try.prog k) (ht : Try.prog.underlying T = some (.map k 3)) {key : Value} {l : Lit} (hkey : keyOf Try.prog k key = some l) :
    (Instr.lookup T (.map (some B)) key false).run Try.prog w = .ok (.int .i64 (F key)) w := by
  obtain ⟨D, h1, h2⟩ := h
  obtain ⟨c, hrun, hat, _⟩ := h1.lookup_int K ht Try.underlying3 (Try.zeroValue3 w) hkey
  rw [h2 key l hkey] at hat
  simp only [DataW.lit.injEq, Lit.int.injEq, true_and] at hat
  rw [hat]
  exact hrun
open Classical in
theorem MapN.put {k T : TypeId} {w : World} {B n : Nat} {F : Value → Int} (h : MapN k w B n F) (K : Keyed Try.prog k) (ht : Try.prog.underlying T = some (.map k 3)) (hn : n < maxLen) {key : Value} {l : Lit} (hkey : keyOf Try.prog k key = some l) {c : Int} (hc : (Lit.int .i64 c).wf = true) :
    ∃ w', (Instr.mapUpdate T (.map (some B)) key (.int .i64 c)).run Try.prog w = .ok () w' ∧ MapN k w' B (n + 1) (fun x => if x = key then c else F x) ∧ w.grownBy w' (some B) := by
  obtain ⟨D, h1, h2⟩ := h
  obtain ⟨w', hrun, hown, hg⟩ := h1.update K ht hn hkey (plainElem_int Try.underlying3 hc)
  refine ⟨w', hrun, ⟨_, hown, fun x lx hx => ?_⟩, hg⟩
  by_cases e : x = key
  · subst e
    dsimp only
    rw [hkey] at hx
    cases hx
    rw [if_pos rfl, atKey_put_same h1.isMap (K.key hkey)]
  · dsimp only
    rw [if_neg e, atKey_put_other (fun he => e (by subst he; exact K.inj hx hkey))]
    exact h2 x lx hx
open Classical in
theorem wpList_mapN {k T : TypeId} {w : World} {ops : Array Oper} {rest : List Oper} {o : Oper} {a : Act} {Q : Exit → Act → World → Prop} (hg : o.guard = none) (m x v : Operand) (hop : o.op = Op.mapUpdate T m x v)
    {B n : Nat} {F : Value → Int} (hm : a.eval m = .map (some B)) (h : MapN k w B n F) (K : Keyed Try.prog k) (ht : Try.prog.underlying T = some (.map k 3)) (hn : n < maxLen) (key : Value) (c : Int) (hx : a.eval x = key) (hv : a.eval v = .int .i64 c) {l : Lit} (hkey : keyOf Try.prog k key = some l) (hc : (Lit.int .i64 c).wf = true)
    (hK : ∀ w' F', F' key = c → (∀ x, x ≠ key → F' x = F x) → MapN k w' B (n + 1) F' → w.grownBy w' (some B) → wpList Try.prog ops Q rest (a.put o.dst undef) w') :
    wpList Try.prog ops Q (o :: rest) a w := by
  refine wpList_plain hg fun K' hK' => ?_
  obtain ⟨w', hrun, r1, r2⟩ := h.put K ht hn hkey hc
  unfold Oper.wp
  simp [execOp, hop, hm, hx, hv, hrun, Result.andThen]
  exact hK' _ _ (hK w' _ (if_pos rfl) (fun x hx => if_neg hx) r1 r2)
def arrK (a c : Int) : Value := .agg #[.int .i64 a, .int .i64 c]
theorem arr_law : Keyed Try.prog 134 := Keyed.of_law (deep_law_laid laid0 (m := 2) (by omega) (of_decide_eq_true (by kernel_rfl)) (by kernel_rfl) (by kernel_rfl))
theorem arr_key {a c : Int} (ha : (Lit.int .i64 a).wf = true) (hc : (Lit.int .i64 c).wf = true) : ∃ l, keyOf Try.prog 134 (arrK a c) = some l := by
  have hkt : Try.prog.keyType 134 = true := by kernel_rfl
  have hcs' : Try.prog.cellsOf 134 = 2 := by kernel_rfl
  have hi : Try.prog.cellsOf 3 = 1 := by kernel_rfl
  have hf : (arrK a c).formed Try.prog 134 = true := by simp [Value.formed, arrK, Try.underlying134, hcs']
  have hcs : (arrK a c).cells.toList = [.int .i64 a, .int .i64 c] := rfl
  have hl : ∀ d, ∃ ls, Try.prog.keyLits (d + 2) 134 [.int .i64 a, .int .i64 c] = some ls := fun d => by
    simp [Program.keyLits, Try.underlying134, Try.underlying3, hcs', hi, ha, hc, show List.range 2 = [0, 1] from rfl]
  have hpos : 0 < Try.prog.types.size := of_decide_eq_true (by kernel_rfl)
  obtain ⟨d, hd⟩ : ∃ d, Try.prog.types.size = d + 1 := ⟨Try.prog.types.size - 1, by omega⟩
  obtain ⟨ls, hls⟩ := hl d
  unfold keyOf
  rw [Try.underlying134]
  simp only [hkt, hf, Bool.and_self, if_true, hcs, hd, hls]
  exact ⟨_, rfl⟩
theorem arrK_inj {a c a' c' : Int} (h : arrK a c = arrK a' c') : a = a' ∧ c = c' := by
  unfold arrK at h
  simp at h
  exact h

/-! The town. -/
def E3 (i : Nat) : Int := if i = 0 then 5 else if i = 1 then 7 else 9
def thrC (i : Nat) : Cfg := ⟨nmT i, E3 i, 5, 2⟩
theorem E3_bd (i : Nat) : 5 ≤ E3 i ∧ E3 i ≤ 9 := by
  unfold E3
  split
  · omega
  · split <;> omega
theorem thrC_ok : ∀ j, j < 3 → CfgOK (thrC j) := fun j _ => ⟨nmT_ok j, by have := E3_bd j; show 1 ≤ E3 j ∧ E3 j ≤ _; omega, by show 1 ≤ (5 : Int) ∧ (5 : Int) ≤ 64; omega, by show 1 ≤ (2 : Int) ∧ (2 : Int) ≤ _; omega⟩
theorem thrC_ne : ∀ i j, i < 3 → j < 3 → (thrC i).id = (thrC j).id → i = j := fun i j hi hj h => nmT_inj hi hj h
/-- Who is stopped: d; node 0 is told of 2 at th. -/
structure TopT (T th : Int) (d : Nat → Bool) (S : TSt) : Prop where
  tok : TOK 3 E3 T S
  dead : S.dead = d
  least : (S.nd 0).least = 2
  subs0 : (S.nd 0).subs = [⟨nmT 2, th, decide (th ≤ levN (S.nd 0) (nmT 2))⟩]
  subs1 : (S.nd 1).subs = []
  vals : ∀ v ∈ (prT (S.nd 0) (nmT 2)).vals, v ≤ 1600
  last : (prT (S.nd 0) (nmT 2)).last ≤ 1600
theorem TOK.put {n : Nat} {E : Nat → Int} {T : Int} {S : TSt} (h : TOK n E T S) {u : Nat} {s : NSt} (hu : u < n) (tn : TN s) (h1 : s.id = (S.nd u).id) (h2 : s.every = (S.nd u).every) (h3 : s.now = (S.nd u).now) (h4 : s.seq = (S.nd u).seq) (h5 : s.peers = (S.nd u).peers) : TOK n E T (setN S u s) := by
  have sq : ∀ i, ((setN S u s).nd i).seq = (S.nd i).seq := fun i => by
    by_cases e : i = u
    · subst e; rw [setN_at]; exact h4
    · rw [setN_ne _ _ e]
  have pr : ∀ i, ((setN S u s).nd i).peers = (S.nd i).peers := fun i => by
    by_cases e : i = u
    · subst e; rw [setN_at]; exact h5
    · rw [setN_ne _ _ e]
  refine ⟨h.n3, h.sn, fun i hi => ?_, fun i hi => ?_, fun i hi => ?_, fun i hi => ?_, fun i j hi hj => by rw [pr]; exact h.knows i j hi hj, fun i j hi hj hij => ?_, fun x hx => ?_, h.len⟩
  · by_cases e : i = u
    · subst e; rw [setN_at]; exact tn
    · rw [setN_ne _ _ e]; exact h.tn i hi
  · by_cases e : i = u
    · subst e; rw [setN_at, h1]; exact h.id i hi
    · rw [setN_ne _ _ e]; exact h.id i hi
  · by_cases e : i = u
    · subst e; rw [setN_at, h2]; exact h.every i hi
    · rw [setN_ne _ _ e]; exact h.every i hi
  · by_cases e : i = u
    · subst e; rw [setN_at, h3]; exact h.now i hi
    · rw [setN_ne _ _ e]; exact h.now i hi
  · have e : prT ((setN S u s).nd i) (nmT j) = prT (S.nd i) (nmT j) := by unfold prT; rw [pr]
    rw [e, sq]; exact h.peer i j hi hj hij
  · obtain ⟨j, q, hj, q1, q2, q3⟩ := h.way x hx
    exact ⟨j, q, hj, q1, by rw [sq]; exact q2, q3⟩
theorem lev_tell (s : NSt) (x : ByteArray) : levN (tellS s) x = levN s x := rfl
theorem lev_drop (s : NSt) (x : ByteArray) : levN (dropQ s) x = levN s x := rfl
theorem told_one {s : NSt} {id : ByteArray} {th : Int} {on : Bool} (h : s.subs = [⟨id, th, on⟩]) : (tellS s).subs = [⟨id, th, decide (th ≤ levN s id)⟩] := by
  show toldS s = _
  unfold toldS
  rw [h]
  rfl
def noD3 : Nat → Bool := fun _ => false
def twoD : Nat → Bool := fun j => if j = 2 then true else false
theorem topT_start {th : Int} (ht : 1 ≤ th ∧ th ≤ 60) : TopT 0 th noD3 (setN (stN thrC 3 3 0) 0 (joinF ((stN thrC 3 3 0).nd 0) (nmT 2) th).1) ∧ TN ((stN thrC 3 3 0).nd 0) ∧ has ((stN thrC 3 3 0).nd 0).peers (nmT 2) = true ∧ ((stN thrC 3 3 0).nd 0).subs = [] := by
  have h := tok_start (n := 3) (C := thrC) (by omega) thrC_ok (fun j _ => rfl)
  have he : (fun j => (thrC j).every) = E3 := rfl
  rw [he] at h
  have hk : has ((stN thrC 3 3 0).nd 0).peers (nmT 2) = true := h.knows 0 2 (by omega) (by omega)
  have hs : ∀ i, ((stN thrC 3 3 0).nd i).subs = [] := mute_start thrC 3 3 0
  have hp : prT ((stN thrC 3 3 0).nd 0) (nmT 2) ∈ wpP thrC 0 3 := by
    have := (prT_mem hk).1
    rw [stN_nd _ (by omega)] at this ⊢
    exact this
  obtain ⟨_, _, h3, c, _, _, _, h4⟩ := wpP_all hp
  have tn := h.tn 0 (by omega)
  have ej : joinF ((stN thrC 3 3 0).nd 0) (nmT 2) th = (tellS (joinS ((stN thrC 3 3 0).nd 0) (nmT 2) th), toldN (joinS ((stN thrC 3 3 0).nd 0) (nmT 2) th)) := by
    unfold joinF
    rw [if_pos ⟨hk, by rw [hs]; rfl, by rw [hs]; simp⟩]
  have sj : (joinS ((stN thrC 3 3 0).nd 0) (nmT 2) th).subs = [⟨nmT 2, th, false⟩] := by
    show _ ++ _ = _
    rw [hs]
    rfl
  rw [ej]
  have tj : TN (tellS (joinS ((stN thrC 3 3 0).nd 0) (nmT 2) th)) := TN.tell ⟨tn.ok.join _ _ (by rw [hs]; simp), tn.inc, tn.seq⟩
  refine ⟨⟨h.put (by omega) tj rfl rfl rfl rfl rfl, rfl, ?_, ?_, ?_, ?_, ?_⟩, tn, hk, hs 0⟩
  · rw [setN_at, stN_nd _ (by omega)]; rfl
  · rw [setN_at, lev_tell]; exact told_one sj
  · rw [setN_ne _ _ (by omega)]; exact hs 1
  · rw [setN_at]
    intro v hv
    have hv : v ∈ (prT ((stN thrC 3 3 0).nd 0) (nmT 2)).vals := hv
    rw [h4] at hv
    have hv : v = (thrC c).every := by simpa using hv
    have hv : v = E3 c := hv
    have := E3_bd c
    omega
  · rw [setN_at]
    show (prT ((stN thrC 3 3 0).nd 0) (nmT 2)).last ≤ 1600
    rw [h3]; omega
section
variable {T th g : Int} {d : Nat → Bool} {S : TSt}
theorem TopT.later (h : TopT T th d S) {T' : Int} (hT : T ≤ T') : TopT T' th d S := ⟨h.tok.later hT, h.dead, h.least, h.subs0, h.subs1, h.vals, h.last⟩
theorem TopT.tickOK (h : TopT T th d S) (hg : 1 ≤ g ∧ g ≤ 300) (hT : T ≤ 1000000) : TickOK S g :=
  h.tok.tickOK (by omega) (by omega) (fun i _ => by
    have := E3_bd i
    have h1 : g / E3 i ≤ 300 / E3 i := Int.ediv_le_ediv (by omega) (by omega)
    have h2 : 300 / E3 i ≤ 300 / 5 := by
      unfold E3
      split
      · omega
      · split <;> omega
    omega)
theorem TopT.tick (h : TopT T th d S) (h0 : d 0 = false) (h1' : d 1 = false) (hg : 1 ≤ g ∧ g ≤ 300) (hT : T ≤ 1000000) (hw : S.way.length + sumM S g 3 ≤ 1000) : TopT (T + g) th d (twS S g 3) ∧ levN (S.nd 0) (nmT 2) ≤ levN ((twS S g 3).nd 0) (nmT 2) ∧ ((twS S g 3).nd 0).now = (S.nd 0).now + g ∧ prT ((twS S g 3).nd 0) (nmT 2) = prT (S.nd 0) (nmT 2) ∧ (d 2 = true → ∀ x, x ∈ twN S g 3 → x.sus = true) := by
  have d0 : S.dead 0 = false := by rw [h.dead]; exact h0
  have d1 : S.dead 1 = false := by rw [h.dead]; exact h1'
  have e0 : (twS S g 3).nd 0 = tellS (tickS (S.nd 0) g) := by rw [twS_nd (by omega), tk_live d0]; rfl
  have e1 : (twS S g 3).nd 1 = tellS (tickS (S.nd 1) g) := by rw [twS_nd (by omega), tk_live d1]; rfl
  have ep : prT ((twS S g 3).nd 0) (nmT 2) = prT (S.nd 0) (nmT 2) := by rw [e0]; rfl
  have n0 := h.tok.now 0 (by omega)
  have lv : levN (S.nd 0) (nmT 2) ≤ levN (tickS (S.nd 0) g) (nmT 2) := lev_later (t := tickS (S.nd 0) g) (h.tok.tn 0 (by omega)).ok rfl rfl (by show (S.nd 0).now ≤ (S.nd 0).now + g; omega) (by show (S.nd 0).now + g ≤ _; omega) _
  refine ⟨⟨h.tok.tick (by omega) (by omega) hw, h.dead, ?_, ?_, ?_, by rw [ep]; exact h.vals, by rw [ep]; exact h.last⟩, by rw [e0, lev_tell]; exact lv, by rw [e0]; rfl, ep, fun d2 x hx => ?_⟩
  · rw [e0]; exact h.least
  · rw [e0, lev_tell]; exact told_one (s := tickS (S.nd 0) g) h.subs0
  · rw [e1]; exact (told_mute (t := tickS (S.nd 1) g) h.subs1).1
  · obtain ⟨j, hj, hx⟩ := List.mem_flatMap.1 (show x ∈ (List.range 3).flatMap (noN S g) from hx)
    have hj := List.mem_range.1 hj
    rcases (show j = 0 ∨ j = 1 ∨ j = 2 by omega) with rfl | rfl | rfl
    · unfold noN at hx
      rw [d0] at hx
      have hx : x ∈ toldN (tickS (S.nd 0) g) := hx
      obtain ⟨u, hu, hne, rfl⟩ := mem_told.1 hx
      have hu : u ∈ (S.nd 0).subs := hu
      rw [h.subs0] at hu
      have hu : u = ⟨nmT 2, th, decide (th ≤ levN (S.nd 0) (nmT 2))⟩ := by simpa using hu
      subst hu
      show decide (th ≤ levN (tickS (S.nd 0) g) (nmT 2)) = true
      have hne : decide (th ≤ levN (tickS (S.nd 0) g) (nmT 2)) ≠ decide (th ≤ levN (S.nd 0) (nmT 2)) := hne
      by_cases c : th ≤ levN (tickS (S.nd 0) g) (nmT 2)
      · simpa using c
      · exact absurd (by rw [decide_eq_false c, decide_eq_false (by omega)]) hne
    · unfold noN at hx
      rw [d1] at hx
      have hx : x ∈ toldN (tickS (S.nd 1) g) := hx
      rw [(told_mute (t := tickS (S.nd 1) g) h.subs1).2] at hx
      cases hx
    · unfold noN at hx
      rw [if_pos (show S.dead 2 = true by rw [h.dead]; exact d2)] at hx
      cases hx
theorem TopT.lose (h : TopT T th d S) (i : Nat) : TopT T th d (wayN S (S.way.eraseIdx i)) := ⟨h.tok.lose (fun x hx => (List.eraseIdx_sublist _ _).mem hx) (List.eraseIdx_sublist _ _).length_le, h.dead, h.least, h.subs0, h.subs1, h.vals, h.last⟩
theorem TopT.stop (h : TopT T th noD3 S) : TopT T th twoD (stopN S 2) := ⟨h.tok.stop 2, by show (fun j => if j = 2 then true else S.dead j) = _; rw [h.dead]; rfl, h.least, h.subs0, h.subs1, h.vals, h.last⟩
theorem TopT.bring (h : TopT T th d S) (hT : T ≤ 1600) {u j : Nat} {q : Int} (hu : u < 3) (hj : j < 3) (hq : 1 ≤ q ∧ q < 2147483648) (hs : q ≤ (S.nd j).seq) : TopT T th d (setN S u (hearF (S.nd u) (nmT j) q).1) := by
  have tok := h.tok.bring hu hj hq hs
  have hn := h.tok.now 0 (by omega)
  have hk2 : has (S.nd 0).peers (nmT 2) = true := h.tok.knows 0 2 (by omega) (by omega)
  have pl : 0 ≤ (prT (S.nd 0) (nmT 2)).last := ((h.tok.tn 0 (by omega)).ok.at (has_lt hk2)).1.last.1
  by_cases e : u = 0
  · subst e
    have hk := h.tok.knows 0 j (by omega) hj
    refine ⟨tok, h.dead, by rw [setN_at, hearF_same.2.2.2.2.2]; exact h.least, ?_, by rw [setN_ne _ _ (by omega)]; exact h.subs1, ?_, ?_⟩
    · rw [setN_at]
      cases hh : has (S.nd 0).peers (nmT j) with
      | false => rw [hearF_no hh]; exact h.subs0
      | true =>
        cases hnw : newB (S.nd 0) (nmT j) q with
        | true => rw [hearF_new hh hnw]; exact told_one (s := hearQ (S.nd 0) (nmT j) q) h.subs0
        | false => rw [hearF_old hh hnw, lev_drop, lev_old hh hnw]; exact h.subs0
    all_goals
      rw [setN_at]
      cases hh : has (S.nd 0).peers (nmT j) with
      | false => rw [hearF_no hh]; first | exact h.vals | exact h.last
      | true =>
        rw [prT_hear hh hk2]
        split
        · rename_i e2
          rw [← e2]
          unfold heardP
          split
          · first
            | (show (S.nd 0).now ≤ 1600; omega)
            | (show ∀ v ∈ (if ((prT (S.nd 0) (nmT 2)).vals.length : Int) = (prT (S.nd 0) (nmT 2)).cap then (prT (S.nd 0) (nmT 2)).vals.drop 1 else (prT (S.nd 0) (nmT 2)).vals) ++ [min ((S.nd 0).now - (prT (S.nd 0) (nmT 2)).last) 16777216], v ≤ 1600
               intro v hv
               rcases List.mem_append.1 hv with hv | hv
               · split at hv
                 · exact h.vals v (List.mem_of_mem_drop hv)
                 · exact h.vals v hv
               · have hv : v = min ((S.nd 0).now - (prT (S.nd 0) (nmT 2)).last) 16777216 := by simpa using hv
                 omega)
          · first | exact h.vals | exact h.last
        · first | exact h.vals | exact h.last
  · have e0 : (setN S u (hearF (S.nd u) (nmT j) q).1).nd 0 = S.nd 0 := setN_ne _ _ (by omega)
    refine ⟨tok, h.dead, by rw [e0]; exact h.least, by rw [e0]; exact h.subs0, ?_, by rw [e0]; exact h.vals, by rw [e0]; exact h.last⟩
    by_cases e1 : u = 1
    · subst e1
      rw [setN_at]
      exact (hear_mute h.subs1).1
    · rw [setN_ne _ _ (by omega)]; exact h.subs1
/-- He is suspected at last. -/
theorem TopT.high (h : TopT T th d S) (hn : 14400 ≤ (S.nd 0).now - (prT (S.nd 0) (nmT 2)).last) (ht : 0 ≤ th ∧ th ≤ 6) : th ≤ levN (S.nd 0) (nmT 2) :=
  lev_high (V := 1600) (h := 3) (h.tok.tn 0 (by omega)).ok (h.tok.knows 0 2 (by omega) (by omega)) h.vals (by rw [h.least]; omega) (by omega) (by omega)
/-- What the map says of who let through what of whom. -/
def Seen (S : TSt) (G : Value → Int) : Prop := ∀ i j : Nat, i < 3 → j < 3 → G (arrK i (97 + j)) = if i = j then 0 else (prT (S.nd i) (nmT j)).seq
theorem seen_start (th : Int) : Seen (setN (stN thrC 3 3 0) 0 (joinF ((stN thrC 3 3 0).nd 0) (nmT 2) th).1) (fun _ => 0) := by
  have h := tok_start (n := 3) (C := thrC) (by omega) thrC_ok (fun j _ => rfl)
  intro i j hi hj
  by_cases e : i = j
  · rw [if_pos e]
  · rw [if_neg e]
    have hk := h.knows i j hi hj
    rw [show decide (i ≠ j) = true by simp [e]] at hk
    have hm := (prT_mem hk).1
    rw [stN_nd _ hi] at hm
    obtain ⟨_, h2, _⟩ := wpP_all hm
    have ep : prT ((setN (stN thrC 3 3 0) 0 (joinF ((stN thrC 3 3 0).nd 0) (nmT 2) th).1).nd i) (nmT j) = prT (wpS thrC i 3) (nmT j) := by
      by_cases e2 : i = 0
      · subst e2
        rw [setN_at, stN_nd _ (by omega)]
        unfold joinF
        split <;> rfl
      · rw [setN_ne _ _ e2, stN_nd _ hi]
    rw [ep]
    exact h2.symm
theorem Seen.same {G : Value → Int} {S' : TSt} (h : Seen S G) (hp : ∀ i, i < 3 → (S'.nd i).peers = (S.nd i).peers) : Seen S' G := by
  intro i j hi hj
  have e : prT (S'.nd i) (nmT j) = prT (S.nd i) (nmT j) := by unfold prT; rw [hp i hi]
  rw [e]; exact h i j hi hj
theorem Seen.tick {G : Value → Int} (h : Seen S G) : Seen (twS S g 3) G := h.same fun i hi => by rw [twS_nd hi, tk_peers]
/-- What is let through of whom: three ways. -/
theorem TopT.heard (h : TopT T th d S) {G : Value → Int} (hG : Seen S G) {u j : Nat} {q : Int} (hu : u < 3) (hj : j < 3) :
    (has (S.nd u).peers (nmT j) = false ∧ Seen (setN S u (hearF (S.nd u) (nmT j) q).1) G) ∨
    (has (S.nd u).peers (nmT j) = true ∧ newB (S.nd u) (nmT j) q = false ∧ q ≤ G (arrK u (97 + j)) ∧ Seen (setN S u (hearF (S.nd u) (nmT j) q).1) G) ∨
    (has (S.nd u).peers (nmT j) = true ∧ newB (S.nd u) (nmT j) q = true ∧ G (arrK u (97 + j)) < q ∧ ∀ G' : Value → Int, G' (arrK u (97 + j)) = q → (∀ x, x ≠ arrK u (97 + j) → G' x = G x) → Seen (setN S u (hearF (S.nd u) (nmT j) q).1) G') := by
  have hk := h.tok.knows u j hu hj
  by_cases e : u = j
  · rw [show decide (u ≠ j) = false by simp [e]] at hk
    refine .inl ⟨hk, hG.same fun i hi => ?_⟩
    rw [hearF_no hk]
    by_cases e2 : i = u
    · subst e2; rw [setN_at]; rfl
    · rw [setN_ne _ _ e2]
  · rw [show decide (u ≠ j) = true by simp [e]] at hk
    have hi := (h.tok.peer u j hu hj e).1
    have hg := hG u j hu hj
    rw [if_neg e] at hg
    have e1 := newB_iff (q := q) hi
    have other : ∀ i k : Nat, i < 3 → k < 3 → i ≠ k → ¬ (i = u ∧ k = j) → (prT ((setN S u (hearF (S.nd u) (nmT j) q).1).nd i) (nmT k)).seq = (prT (S.nd i) (nmT k)).seq := fun i k hi hk2 hik hn => by
      by_cases e2 : i = u
      · subst e2
        have hx := h.tok.knows i k hu hk2
        rw [show decide (i ≠ k) = true by simp [hik]] at hx
        rw [setN_at, prT_hear hk hx, if_neg (fun e3 => hn ⟨rfl, nmT_inj hk2 hj e3⟩)]
      · rw [setN_ne _ _ e2]
    have here : prT ((setN S u (hearF (S.nd u) (nmT j) q).1).nd u) (nmT j) = heardP (prT (S.nd u) (nmT j)) 0 q (S.nd u).now := by rw [setN_at, prT_hear hk hk, if_pos rfl]
    have e2 : newB (S.nd u) (nmT j) q = newer (prT (S.nd u) (nmT j)) 0 q := rfl
    cases hn : newB (S.nd u) (nmT j) q with
    | false =>
      rw [hn] at e1 e2
      have hle : q ≤ (prT (S.nd u) (nmT j)).seq := by have := of_decide_eq_false e1.symm; omega
      refine .inr (.inl ⟨hk, rfl, by rw [hg]; exact hle, fun i k hi' hk' => ?_⟩)
      have old := hG i k hi' hk'
      by_cases e3 : i = k
      · rw [if_pos e3] at old ⊢; exact old
      · rw [if_neg e3] at old ⊢
        by_cases e4 : i = u ∧ k = j
        · obtain ⟨rfl, rfl⟩ := e4
          rw [here, old]
          unfold heardP
          rw [if_neg (by rw [← e2]; simp)]
        · rw [other i k hi' hk' e3 e4]; exact old
    | true =>
      rw [hn] at e1 e2
      have hlt : (prT (S.nd u) (nmT j)).seq < q := of_decide_eq_true e1.symm
      refine .inr (.inr ⟨hk, rfl, by rw [hg]; exact hlt, fun G' g1 g2 i k hi' hk' => ?_⟩)
      have old := hG i k hi' hk'
      by_cases e3 : i = k
      · rw [if_pos e3] at old ⊢
        rw [g2 _ (fun he => by have := arrK_inj he; omega)]; exact old
      · rw [if_neg e3] at old ⊢
        by_cases e4 : i = u ∧ k = j
        · obtain ⟨rfl, rfl⟩ := e4
          rw [here, g1]
          unfold heardP
          rw [if_pos e2.symm]
        · rw [other i k hi' hk' e3 e4, g2 _ (fun he => by have := arrK_inj he; omega)]; exact old
end
/-- How many texts are under way, read of the memory. -/
def wayLen (w : World) (t : Nat) : Nat := match w.cell? ⟨t, 3, none⟩ with
  | some (.slice _ n _) => n
  | _ => 0
theorem TRep.wayLen {w : World} {t : Nat} {S : TSt} {f : Nat → Prop} (h : TRep w t S f) : wayLen w t = S.way.length := by
  obtain ⟨c, ga, gn, gd, ca, cn, cd, wv, bs, h⟩ := h
  obtain ⟨_, _, _, k3, _⟩ := h.cells
  obtain ⟨A, cw, rfl, _, _, _⟩ := own_form h.way
  unfold Go.Proofs.Ytpomdnglknbanaa.wayLen
  rw [k3]
theorem tnew3_ok (w : World) :
    Calls Try.prog 55 #[.slice (some ⟨w.heap.size, 0, none⟩) 3 3] (w.alloc (.cells #[.string ⟨#[97]⟩, .int .i64 0, .int .i64 5, .int .i64 5, .int .i64 2, .string ⟨#[98]⟩, .int .i64 0, .int .i64 7, .int .i64 5, .int .i64 2, .string ⟨#[99]⟩, .int .i64 0, .int .i64 9, .int .i64 5, .int .i64 2] 29))
      fun e w' => ∃ t f, e = .returned (.tuple #[.pointer (some ⟨t, 0, none⟩), .int .i64 0]) ∧ TRep w' t (stN thrC 3 3 0) f ∧ (∀ x, f x → w.heap.size ≤ x) ∧ Below w.heap.size w w' := by
  have own := lit_own (w := w) (base := w.heap.size) (n := 3) (size := 5) (T := 29) (xs := #[.string ⟨#[97]⟩, .int .i64 0, .int .i64 5, .int .i64 5, .int .i64 2, .string ⟨#[98]⟩, .int .i64 0, .int .i64 7, .int .i64 5, .int .i64 2, .string ⟨#[99]⟩, .int .i64 0, .int .i64 9, .int .i64 5, .int .i64 2]) rfl (Nat.le_refl _) (by unfold maxLen; omega)
  have er : cfgV thrC 3 = [.string ⟨#[97]⟩, .int .i64 0, .int .i64 5, .int .i64 5, .int .i64 2, .string ⟨#[98]⟩, .int .i64 0, .int .i64 7, .int .i64 5, .int .i64 2, .string ⟨#[99]⟩, .int .i64 0, .int .i64 9, .int .i64 5, .int .i64 2] := rfl
  have own' : (w.alloc (.cells #[.string ⟨#[97]⟩, .int .i64 0, .int .i64 5, .int .i64 5, .int .i64 2, .string ⟨#[98]⟩, .int .i64 0, .int .i64 7, .int .i64 5, .int .i64 2, .string ⟨#[99]⟩, .int .i64 0, .int .i64 9, .int .i64 5, .int .i64 2] 29)).ownsRow w.heap.size 29 5 (.slice (some ⟨w.heap.size, 0, none⟩) 3 3) 3 (cfgV thrC 3) := by rw [er]; exact own
  refine (tnew_ok 3 3 w.heap.size _ _ _ own' (by omega) thrC_ok thrC_ne).mono ?_
  rintro e w' ⟨t, f, rfl, h, hf, hb⟩
  have ab : Below w.heap.size w (w.alloc (.cells #[.string ⟨#[97]⟩, .int .i64 0, .int .i64 5, .int .i64 5, .int .i64 2, .string ⟨#[98]⟩, .int .i64 0, .int .i64 7, .int .i64 5, .int .i64 2, .string ⟨#[99]⟩, .int .i64 0, .int .i64 9, .int .i64 5, .int .i64 2] 29)) := (Below.refl _ _).alloc (Nat.le_refl _) _
  exact ⟨t, f, rfl, h, fun x hx => Nat.le_trans ab.size (hf x hx), ab.trans (hb.mono ab.size)⟩
theorem withinB (k n x : Int) (w : World) (h : 0 < n) (h1 : n ≤ 9223372036854775807) (hx : within k n = x) : Calls Try.prog 28 #[.int .i64 k, .int .i64 n] w fun e w' => e = .returned (.int .i64 x) ∧ Below w.heap.size w w' := by
  refine (within_any k n x w h h1 hx).mono ?_
  rintro e w' ⟨rfl, rfl⟩
  exact ⟨rfl, Below.refl _ _⟩
set_option maxRecDepth 100000 in
set_option maxHeartbeats 32000000 in
theorem topTown_walk (a : Option Addr) (len cap : Nat) (Z : List (List Int)) (h0 : Int) (w : World) (hr : IsRows w a len Z) (hc : len ≤ cap ∧ cap ≤ maxLen) (_ : (Lit.int .i64 h0).wf = true) :
    Calls Try.prog 23 #[.slice a len cap, .int .i64 h0] w fun e w' => e = .returned (.bool true) ∧ Below w.heap.size w w' := by
  obtain ⟨hcp, hmx⟩ := hc
  unfold maxLen at hmx
  obtain ⟨n, hn⟩ : ∃ n : Nat, min len 80 = n := ⟨_, rfl⟩
  have hmin : min (len : Int) 80 = (n : Int) := by omega
  have hnl : n ≤ len := by omega
  have nl' : (n : Int) ≤ len := by omega
  have nc' : (n : Int) ≤ cap := by omega
  have hn80 : n ≤ 80 := by omega
  have b3 := within_bd h0 (n := 6) (by omega)
  obtain ⟨Th', hTh'⟩ : ∃ x, within h0 6 = x := ⟨_, rfl⟩
  obtain ⟨Th, hTh⟩ : ∃ x, 1 + Th' = x := ⟨_, rfl⟩
  have TB : 1 ≤ Th ∧ Th ≤ 6 := by omega
  have vT : IntKind.i64.wrap (1 + Th') = Th := by rw [hTh]; exact IntWalk.i64_in _ (by omega)
  have HTh := Lib.hid hTh'
  obtain ⟨s1, s2, s3, s4⟩ := topT_start (th := Th) (by omega)
  have HS0 := Lib.hid s1
  have HSe0 := Lib.hid (seen_start Th)
  have HJ := Lib.hid (fun f w' t (h : TRep w' t (stN thrC 3 3 0) f) => tjoin_ok (i := 0) w' (nmT 2) Th h (show 0 < 3 by omega) rfl s2.ok (by omega) s3 s4)
  have HB := Lib.hid (fun w' => te_begun w')
  have HC := Lib.hid (fun id k w' => config_ok id k w')
  have HN := Lib.hid (fun w' => tnew3_ok w')
  have HR := Lib.hid hr
  have hmm := @run_makeMap Try.prog
  have qa := alloc_cells
  have qf := alloc_frozens
  clear hr hn b3 hTh hTh' s1 s2 s3 s4
  go_enter Try.func23, Try.ntmps23
  go_wp2_with fail
  refine (HB.out w).mono ?_
  rintro e w1 ⟨rfl, hb1⟩
  have B1 := Lib.hid hb1
  clear hb1
  go_wp2_with fail
  refine (HC.out _ _ w1).mono ?_
  rintro e w2 ⟨rfl, hb2⟩
  have B2 := Lib.hid (B1.out.trans (hb2.mono B1.out.size))
  clear hb2
  go_wp2_with fail
  refine (HC.out _ _ w2).mono ?_
  rintro e w3 ⟨rfl, hb3⟩
  have B3 := Lib.hid (B2.out.trans (hb3.mono B2.out.size))
  clear hb3
  go_wp2_with fail
  refine (HC.out _ _ w3).mono ?_
  rintro e w4 ⟨rfl, hb4⟩
  have B4 := Lib.hid (B3.out.trans (hb4.mono B3.out.size))
  clear hb4
  go_wp2_with fail
  refine (HN.out w4).mono ?_
  rintro e w5 ⟨t, f0, rfl, h5, hf5, hb5⟩
  have R5 := Lib.hid h5
  have B5 := Lib.hid (B4.out.trans (hb5.mono B4.out.size))
  have F5 := Lib.hid (fun x hx => Nat.le_trans B4.out.size (hf5 x hx))
  clear h5 hf5 hb5
  go_wp2_with fail
  refine (within_any h0 6 Th' _ (by omega) (by omega) HTh.out).mono ?_
  rintro e w' ⟨rfl, rfl⟩
  go_wp2_with fail
  refine (HJ.out _ _ _ R5.out).mono ?_
  rintro e w6 ⟨A6, c6, k6, f6, rfl, h6, hf6, kp6⟩
  have R6 := Lib.hid h6
  have B6 := Lib.hid (B5.out.trans (kp6.below B5.out.size F5.out))
  have F6 := Lib.hid (fun x hx => (hf6 x hx).elim (F5.out x) (fun h => Nat.le_trans B5.out.size h))
  clear h6 hf6 kp6
  go_wp2_with fail
  have ab : Below w6.heap.size w6 (w6.alloc (.map #[] 0)) := (Below.refl _ _).alloc (Nat.le_refl _) _
  have M7 := Lib.hid (MapN.made 134 w6)
  have R7 := Lib.hid (R6.out.below ab)
  have B7 := Lib.hid (B6.out.trans (ab.mono B6.out.size))
  have N7 := Lib.hid (show ¬ f6 w6.heap.size from fun h => absurd (R6.out.lt _ h) (Nat.lt_irrefl _))
  have z6 := B6.out.size
  have z7 : (w6.alloc (.map #[] 0)).heap.size = w6.heap.size + 1 := by simp
  obtain ⟨B, hB⟩ : ∃ B, w6.heap.size = B := ⟨_, rfl⟩
  rw [hB] at M7 N7 z6 z7 ⊢
  generalize w6.alloc (.map #[] 0) = w7 at M7 R7 B7 z7 ⊢
  clear ab hB R6 R5 B5 B4 B3 B2 B1 qa qf hmm
  go_loopw [60] (fun i wr => ∃ (k : Nat) (S : TSt) (f : Nat → Prop) (G : Value → Int) (mc : Nat), k ≤ n ∧ i = .int .i64 k ∧ TRep wr t S f ∧ TopT (20 * k) Th noD3 S ∧ Seen S G ∧ MapN 134 wr B mc G ∧ mc ≤ k ∧ ¬ f B ∧ (∀ x, f x → w.heap.size ≤ x) ∧ Below w.heap.size w wr) (fun i _ => n - (intOf i).toNat)
  case atStart => exact ⟨0, _, f6, _, 0, Nat.zero_le _, rfl, R7.out, HS0.out, HSe0.out, M7.out, Nat.le_refl _, N7.out, F6.out, B7.out⟩
  case round =>
    obtain ⟨wx, rfl⟩ : ∃ z : World, z = wr := ⟨_, rfl⟩
    clear R7 M7 N7 B7 F6 F5 B6 HS0 HSe0 HJ HB HC HN z7
    obtain ⟨k, S, f, G, mc, hk, rfl, hrep, hok, hse, hmp, hmc, hnb, hf, bel⟩ := hrel
    have sz0 := bel.size
    by_cases hlt : k < n
    · obtain ⟨rb, off, A, C, rfl, rc, hin⟩ := rows_at HR.out (show k < len by omega) bel
      obtain ⟨l, hl⟩ : ∃ l, Z.getD k [] = l := ⟨_, rfl⟩
      rw [hl] at rc hin
      obtain ⟨m, hm⟩ : ∃ m, l.length = m := ⟨_, rfl⟩
      rw [hm] at rc hin
      have kw : IntKind.i64.wrap ((k : Int) + 1) = (k : Int) + 1 := IntWalk.i64_in _ (by omega)
      have kl : (k : Int) < n := by omega
      have HOk := Lib.hid hok
      have HRep := Lib.hid hrep
      have HSe := Lib.hid hse
      have HMp := Lib.hid hmp
      have HNB := Lib.hid hnb
      have HF := Lib.hid hf
      have HBe := Lib.hid bel
      have HIn := Lib.hid hin
      clear hl hm hin hok hrep hse hmp hnb hf bel
      by_cases hm2 : m < 3
      · have hm2' : (m : Int) < 3 := by omega
        go_wp2_with fail
        go_roundw
        case rel => exact ⟨k + 1, S, f, G, mc, by omega, by go_num, HRep.out, HOk.out.later (by omega), HSe.out, HMp.out, by omega, HNB.out, HF.out, HBe.out⟩
        case measure => simp [intOf]; omega
      · have hm2' : ¬ (m : Int) < 3 := by omega
        have hm0 : (0 : Int) < m := by omega
        have hm1 : (1 : Int) < m := by omega
        have hm3 : (2 : Int) < m := by omega
        obtain ⟨b2, o2, rfl, hb2, hc2⟩ := HIn.out.1.at (show 0 < m by omega)
        obtain ⟨x0, hx0⟩ : ∃ x, l.getD 0 0 = x := ⟨_, rfl⟩
        obtain ⟨x1, hx1⟩ : ∃ x, l.getD 1 0 = x := ⟨_, rfl⟩
        obtain ⟨x2, hx2⟩ : ∃ x, l.getD 2 0 = x := ⟨_, rfl⟩
        have cc0 := hc2 0 (by omega)
        have cc1 := hc2 1 (by omega)
        have cc2 := hc2 2 (by omega)
        rw [hx0, Nat.add_zero] at cc0
        rw [hx1] at cc1
        rw [hx2] at cc2
        have d0 := within_bd x0 (n := 3) (by omega)
        obtain ⟨a0, ha0⟩ : ∃ y, within x0 3 = y := ⟨_, rfl⟩
        rw [ha0] at d0
        obtain ⟨y, hy⟩ : ∃ y, S.way.length = y := ⟨_, rfl⟩
        have hy1000 := HOk.out.tok.len
        have HWy := Lib.hid (fun w' (h : TRep w' t S f) => tway_ok w' h (by omega))
        rw [hy] at HWy hy1000
        have HA0 := Lib.hid ha0
        have HY := Lib.hid hy
        have HC := Lib.hid (And.intro cc0 (And.intro cc1 cc2))
        have HBl0 := Lib.hid HMp.out.lt
        clear hc2 hx0 hx1 hx2 ha0 hy cc0 cc1 cc2
        go_wp2_with fail
        refine (HWy.out _ HRep.out).mono ?_
        rintro e w3 ⟨A3, c3, rfl, own3, hb3⟩
        have TR := Lib.hid (trow_own own3)
        have R3 := Lib.hid (HRep.out.below hb3)
        have B3 := Lib.hid (HBe.out.trans (hb3.mono sz0))
        have M3 := Lib.hid (HMp.out.same (hb3.block B HBl0.out))
        have HBl := Lib.hid (show B < w3.heap.size from Nat.lt_of_lt_of_le HBl0.out hb3.size)
        have c0 := (hb3.cell (p := ⟨b2, o2, none⟩) hb2).trans HC.out.1
        have c1 := (hb3.cell (p := ⟨b2, o2 + 1, none⟩) hb2).trans HC.out.2.1
        have c2 := (hb3.cell (p := ⟨b2, o2 + 2, none⟩) hb2).trans HC.out.2.2
        have hb23 : b2 < w3.heap.size := Nat.lt_of_lt_of_le hb2 hb3.size
        clear hb3 own3
        go_wp2_with fail
        refine (within_any x0 3 a0 _ (by omega) (by omega) HA0.out).mono ?_
        rintro e w' ⟨rfl, rfl⟩
        by_cases hz : a0 = 0
        · subst hz
          clear d0
          obtain ⟨g', hg'⟩ : ∃ g', within x1 20 = g' := ⟨_, rfl⟩
          have d1 := within_bd x1 (n := 20) (by omega)
          rw [hg'] at d1
          obtain ⟨g, hg⟩ : ∃ g, 1 + g' = g := ⟨_, rfl⟩
          have gb : 1 ≤ g ∧ g ≤ 20 := by omega
          have vg : IntKind.i64.wrap (1 + g') = g := by rw [hg]; exact IntWalk.i64_in _ (by omega)
          have tk1 := HOk.out.tickOK (g := g) (by omega) (by omega)
          have HT := Lib.hid (fun w' (h : TRep w' t S f) => ttick_ok w' h tk1)
          rw [HOk.out.tok.sn] at HT
          have HTk := Lib.hid (fun hw => (HOk.out.tick (g := g) rfl rfl (by omega) (by omega) hw).1)
          have HG := Lib.hid hg'
          have HGb := Lib.hid gb
          clear hg' hg tk1
          go_wp2_with fail
          refine (within_any x1 20 g' _ (by omega) (by omega) HG.out).mono ?_
          rintro e w' ⟨rfl, rfl⟩
          go_wp2_with fail
          refine (HT.out _ R3.out).mono ?_
          rintro e w4 (⟨_, rfl, hb4⟩ | ⟨hle, A4, c4, f4, rfl, _, h4, hf4, k4⟩)
          · have R4 := Lib.hid (R3.out.below hb4)
            have B4 := Lib.hid (B3.out.trans (hb4.mono B3.out.size))
            have M4 := Lib.hid (M3.out.same (hb4.block B HBl.out))
            clear hb4
            go_wp2_with fail
            go_roundw
            case rel => exact ⟨k + 1, S, f, G, mc, by omega, by go_num, R4.out, HOk.out.later (by omega), HSe.out, M4.out, by omega, HNB.out, HF.out, B4.out⟩
            case measure => simp [intOf]; omega
          · have R4 := Lib.hid h4
            have B4 := Lib.hid (B3.out.trans (k4.below B3.out.size HF.out))
            have F4 := Lib.hid (fun x hx => (hf4 x hx).elim (HF.out x) (fun h => Nat.le_trans B3.out.size h))
            have M4 := Lib.hid (M3.out.same (k4.block B HBl.out HNB.out))
            have N4 := Lib.hid (show ¬ f4 B from fun h => (hf4 B h).elim HNB.out (fun h => by have := HBl.out; omega))
            have O4 := Lib.hid (HTk.out hle)
            clear h4 hf4 k4 hle
            go_wp2_with fail
            go_roundw
            case rel => exact ⟨k + 1, _, f4, G, mc, by omega, by go_num, R4.out, O4.out.later (by have := HGb.out; omega), HSe.out.tick, M4.out, by omega, N4.out, F4.out, B4.out⟩
            case measure => simp [intOf]; omega
        by_cases hy0 : y = 0
        · subst hy0
          have hz' : (a0 == 0) = false := by simp [hz]
          clear d0
          obtain ⟨g', hg'⟩ : ∃ g', within x1 20 = g' := ⟨_, rfl⟩
          have d1 := within_bd x1 (n := 20) (by omega)
          rw [hg'] at d1
          obtain ⟨g, hg⟩ : ∃ g, 1 + g' = g := ⟨_, rfl⟩
          have gb : 1 ≤ g ∧ g ≤ 20 := by omega
          have vg : IntKind.i64.wrap (1 + g') = g := by rw [hg]; exact IntWalk.i64_in _ (by omega)
          have tk1 := HOk.out.tickOK (g := g) (by omega) (by omega)
          have HT := Lib.hid (fun w' (h : TRep w' t S f) => ttick_ok w' h tk1)
          rw [HOk.out.tok.sn] at HT
          have HTk := Lib.hid (fun hw => (HOk.out.tick (g := g) rfl rfl (by omega) (by omega) hw).1)
          have HG := Lib.hid hg'
          have HGb := Lib.hid gb
          clear hg' hg tk1
          go_wp2_with fail
          refine (within_any x1 20 g' _ (by omega) (by omega) HG.out).mono ?_
          rintro e w' ⟨rfl, rfl⟩
          go_wp2_with fail
          refine (HT.out _ R3.out).mono ?_
          rintro e w4 (⟨_, rfl, hb4⟩ | ⟨hle, A4, c4, f4, rfl, _, h4, hf4, k4⟩)
          · have R4 := Lib.hid (R3.out.below hb4)
            have B4 := Lib.hid (B3.out.trans (hb4.mono B3.out.size))
            have M4 := Lib.hid (M3.out.same (hb4.block B HBl.out))
            clear hb4
            go_wp2_with fail
            go_roundw
            case rel => exact ⟨k + 1, S, f, G, mc, by omega, by go_num, R4.out, HOk.out.later (by omega), HSe.out, M4.out, by omega, HNB.out, HF.out, B4.out⟩
            case measure => simp [intOf]; omega
          · have R4 := Lib.hid h4
            have B4 := Lib.hid (B3.out.trans (k4.below B3.out.size HF.out))
            have F4 := Lib.hid (fun x hx => (hf4 x hx).elim (HF.out x) (fun h => Nat.le_trans B3.out.size h))
            have M4 := Lib.hid (M3.out.same (k4.block B HBl.out HNB.out))
            have N4 := Lib.hid (show ¬ f4 B from fun h => (hf4 B h).elim HNB.out (fun h => by have := HBl.out; omega))
            have O4 := Lib.hid (HTk.out hle)
            clear h4 hf4 k4 hle
            go_wp2_with fail
            go_roundw
            case rel => exact ⟨k + 1, _, f4, G, mc, by omega, by go_num, R4.out, O4.out.later (by have := HGb.out; omega), HSe.out.tick, M4.out, by omega, N4.out, F4.out, B4.out⟩
            case measure => simp [intOf]; omega
        have hz' : (a0 == 0) = false := by simp [hz]
        have hy' : ((y : Int) == 0) = false := by simp [hy0]
        have d1 := within_bd x1 (n := y) (by omega)
        obtain ⟨i, hi⟩ : ∃ i : Nat, within x1 y = i := ⟨(within x1 y).toNat, by omega⟩
        have hiy : i < y := by omega
        have yi : (i : Int) < y := by omega
        have d2 := within_bd x2 (n := 3) (by omega)
        obtain ⟨u, hu⟩ : ∃ u : Nat, within x2 3 = u := ⟨(within x2 3).toNat, by omega⟩
        have hu3 : u < 3 := by omega
        obtain ⟨j, q, hj, q1, q2, q3, q4⟩ := HOk.out.tok.text (by omega) (i := i) (by rw [HY.out]; omega)
        have HWi := Lib.hid (fun w' => withinB x1 y i w' (by omega) (by omega) hi)
        have HWu := Lib.hid (fun w' => withinB x2 3 u w' (by omega) (by omega) hu)
        have tw := HOk.out.bring (u := u) (by omega) hu3 hj ⟨q1, q2⟩ q3
        have HOB := Lib.hid tw
        have HD := Lib.hid (fun w' => decode_enc (nmT j) 0 q.toNat w' ⟨nmT_ok j, by omega, by omega, by omega⟩)
        rw [show ((q.toNat : Nat) : Int) = q by omega] at HD
        have HTx := Lib.hid q4
        have hcs := HOk.out.heard HSe.out (u := u) (j := j) (q := q) hu3 hj
        have HBs := Lib.hid (fun hno w' (h : TRep w' t S f) => tbring_self (i := i) (u := u) w' h (by rw [HY.out]; omega) (by rw [HOk.out.tok.sn]; omega) (by rw [HOk.out.dead]; rfl) (HOk.out.tok.tn u hu3).ok (nmT_ok j) ⟨q1, q2⟩ hno q4)
        have HBo := Lib.hid (fun w' (h : TRep w' t S f) => tbring_ok (i := i) (u := u) w' h (by rw [HY.out]; omega) (by rw [HOk.out.tok.sn]; omega) (by rw [HOk.out.dead]; rfl) (HOk.out.tok.tn u hu3).ok (nmT_ok j) ⟨q1, q2⟩ q4)
        have HKey := Lib.hid (arr_key (a := (u : Int)) (c := (97 + j : Int)) (WalkArith.wf_i64 (by omega)) (WalkArith.wf_i64 (by omega)))
        have hqw : (Lit.int .i64 q).wf = true := WalkArith.wf_i64 (by omega)
        have HQ := Lib.hid hqw
        obtain ⟨tx, htx⟩ : ∃ x, mkB (encL (byts (nmT j)) 0 q.toNat) = x := ⟨_, rfl⟩
        rw [htx] at HD HTx
        clear hi hu d0 d1 d2 tw q1 q2 q3 q4 htx hqw
        obtain ⟨tb, to', rfl, tl, tc⟩ := TR.out.at hiy
        rw [HTx.out] at tc
        rcases hcs with ⟨k1, k2⟩ | ⟨k1, k2, k3, k4⟩ | ⟨k1, k2, k3, k4⟩
        · have HK := Lib.hid (And.intro k1 k2)
          clear k1 k2
          go_wp2_with fail
          refine wp_region_quiet_all (Ext _) (by kernel_rfl) (by kernel_rfl) (Ext.drawn _) ?_
          repeat (first | go_big_quiet_skip | go_big_quiet_step (fail) | (refine BigFrame.wpQuiet_want rfl (fun K hK => ?_); apply Exists.intro; refine ⟨fun w2 h2 => ?_, ?_⟩; (next => (have g1 := Below.cells h2.below; have g2 := Below.frozens h2.below; (try simp only [World.size_alloc, World.size_setCell] at g1 g2); first | (go_simp; (go_at_call 28; first | (with_reducible exact h2.calls (HWi.out _)) | (with_reducible exact h2.calls (HWu.out _)))) | (simp [go_sem, ↓IntWalk.iteOmega, *]; done) | (simp [go_sem, ↓IntWalk.iteOmega, *]; rfl)))); (go_simp; refine hK _ ?_; clear hK K))
          refine wpQuiet_nil ?_
          intro w4 h4
          have hb4 := h4.below
          clear h4
          have z4 := hb4.size
          have c4 := Below.cells hb4
          have f4 := Below.frozens hb4
          try simp only [World.size_alloc, World.size_setCell, World.size_drew] at z4 c4 f4
          go_wp2_with fail
          have R4 := Lib.hid (R3.out.below hb4)
          have B4 := Lib.hid (B3.out.trans (hb4.mono B3.out.size))
          have M4 := Lib.hid (M3.out.same (hb4.block B HBl.out))
          have Bl4 := Lib.hid (show B < w4.heap.size from Nat.lt_of_lt_of_le HBl.out hb4.size)
          clear hb4
          refine (HD.out _).mono ?_
          rintro e w5 ⟨rfl, hb5⟩
          have R5 := Lib.hid (R4.out.below hb5)
          have B5 := Lib.hid (B4.out.trans (hb5.mono B4.out.size))
          have M5 := Lib.hid (M4.out.same (hb5.block B Bl4.out))
          have Bl5 := Lib.hid (show B < w5.heap.size from Nat.lt_of_lt_of_le Bl4.out hb5.size)
          clear hb5
          have hsz : (nmT j).size = 1 := by
            unfold nmT
            split
            · rfl
            · split <;> rfl
          have qa := alloc_cells
          have qf := alloc_frozens
          have hbt : ∀ h : 0 < (nmT j).size, wrap64 (((nmT j)[0]'h).toNat : Int) = (97 + j : Int) := by
            intro h
            have e : ((nmT j)[0]'h).toNat = 97 + j := by
              rcases (show j = 0 ∨ j = 1 ∨ j = 2 by omega) with rfl | rfl | rfl <;> rfl
            rw [e, show ((97 + j : Nat) : Int) = 97 + (j : Int) by omega]
            exact IntWalk.wrap64_in (97 + (j : Int)) (by omega)
          obtain ⟨id, hid⟩ : ∃ id, nmT j = id := ⟨_, rfl⟩
          rw [hid] at hsz hbt ⊢
          clear hid
          go_wp2_with fail
          simp only [hbt]
          have b6 : Below w5.heap.size w5 ((w5.alloc (.cells #[.string id, .int .i64 0, .int .i64 q] 42)).alloc (.cells #[.int .i64 u, .int .i64 (97 + j)] 134)) := ((Below.refl w5.heap.size w5).alloc (Nat.le_refl _) _).alloc (by simp) _
          have y2 : ((w5.alloc (.cells #[.string id, .int .i64 0, .int .i64 q] 42)).alloc (.cells #[.int .i64 u, .int .i64 (97 + j)] 134)).cell? ⟨w5.heap.size, 2, none⟩ = some (.int .i64 q) := by simp [qa]
          have u0 : ((w5.alloc (.cells #[.string id, .int .i64 0, .int .i64 q] 42)).alloc (.cells #[.int .i64 u, .int .i64 (97 + j)] 134)).cell? ⟨w5.heap.size + 1, 0, none⟩ = some (.int .i64 u) := by simp [qa]
          have u1 : ((w5.alloc (.cells #[.string id, .int .i64 0, .int .i64 q] 42)).alloc (.cells #[.int .i64 u, .int .i64 (97 + j)] 134)).cell? ⟨w5.heap.size + 1, 1, none⟩ = some (.int .i64 (97 + j)) := by simp [qa]
          have z6 : ((w5.alloc (.cells #[.string id, .int .i64 0, .int .i64 q] 42)).alloc (.cells #[.int .i64 u, .int .i64 (97 + j)] 134)).heap.size = w5.heap.size + 2 := by simp
          have R6 := Lib.hid (R5.out.below b6)
          have B6 := Lib.hid (B5.out.trans (b6.mono B5.out.size))
          have M6 := Lib.hid (M5.out.same (b6.block B Bl5.out))
          have HFl := Lib.hid R5.out.lt
          generalize ((w5.alloc (.cells #[.string id, .int .i64 0, .int .i64 q] 42)).alloc (.cells #[.int .i64 u, .int .i64 (97 + j)] 134)) = w6 at y2 u0 u1 z6 R6 B6 M6 ⊢
          obtain ⟨pb, hpb⟩ : ∃ x, w5.heap.size = x := ⟨_, rfl⟩
          have Bl6 := Lib.hid (show B < w6.heap.size by have := Bl5.out; omega)
          have HPb := Lib.hid (show (∀ x, f x → x < pb) by rw [← hpb]; exact HFl.out)
          rw [hpb] at y2 u0 u1 z6 ⊢
          have Y := Lib.hid (And.intro y2 (And.intro u0 u1))
          have Z6 := Lib.hid z6
          clear b6 hpb y2 u0 u1 z6 qa qf hbt
          refine (HBs.out HK.out.1 _ R6.out).mono ?_
          rintro e w7 ⟨rfl, ⟨f7, h7, hf7⟩, k7⟩
          have R7 := Lib.hid h7
          have B7 := Lib.hid (B6.out.trans (k7.below B6.out.size HF.out))
          have F7 := Lib.hid (fun x hx => (hf7 x hx).elim (HF.out x) (fun h => Nat.le_trans B6.out.size h))
          have M7 := Lib.hid (M6.out.same (k7.block B Bl6.out HNB.out))
          have Bl7 := Lib.hid (show B < w7.heap.size from Nat.lt_of_lt_of_le Bl6.out k7.size)
          have N7 := Lib.hid (show ¬ f7 B from fun h => (hf7 B h).elim HNB.out (fun h => by have := Bl6.out; omega))
          have p0 : w7.heap[pb]? = w6.heap[pb]? := k7.block pb (by have := Z6.out; omega) (fun h => by have := HPb.out pb h; omega)
          have p1 : w7.heap[pb + 1]? = w6.heap[pb + 1]? := k7.block (pb + 1) (by have := Z6.out; omega) (fun h => by have := HPb.out (pb + 1) h; omega)
          have y2 : w7.cell? ⟨pb, 2, none⟩ = some (.int .i64 q) := (World.cell?_of_block (a := ⟨pb, 2, none⟩) p0).trans Y.out.1
          have u0 : w7.cell? ⟨pb + 1, 0, none⟩ = some (.int .i64 u) := (World.cell?_of_block (a := ⟨pb + 1, 0, none⟩) p1).trans Y.out.2.1
          have u1 : w7.cell? ⟨pb + 1, 1, none⟩ = some (.int .i64 (97 + j)) := (World.cell?_of_block (a := ⟨pb + 1, 1, none⟩) p1).trans Y.out.2.2
          have z7 : pb < w7.heap.size := by have := k7.size; have := Z6.out; omega
          have z7' : pb + 1 < w7.heap.size := by have := k7.size; have := Z6.out; omega
          clear h7 hf7 k7 p0 p1
          go_wp2_with fail
          refine wp_region_quiet_all (Ext _) (by kernel_rfl) (by kernel_rfl) (Ext.drawn _) ?_
          repeat (first | go_big_quiet_skip | go_big_quiet_step (fail) | (refine BigFrame.wpQuiet_want rfl (fun K hK => ?_); apply Exists.intro; refine ⟨fun w2 h2 => ?_, ?_⟩; (next => (have g1 := Below.cells h2.below; have g2 := Below.frozens h2.below; (try simp only [World.size_alloc, World.size_setCell] at g1 g2); first | (go_simp; (fail)) | (simp [go_sem, ↓IntWalk.iteOmega, *]; done) | (simp [go_sem, ↓IntWalk.iteOmega, *]; rfl)))); (go_simp; refine hK _ ?_; clear hK K))
          refine wpQuiet_nil ?_
          intro w8 h8
          have hb8 := h8.below
          clear h8
          have R8 := Lib.hid (R7.out.below hb8)
          have B8 := Lib.hid (B7.out.trans (hb8.mono B7.out.size))
          have M8 := Lib.hid (M7.out.same (hb8.block B Bl7.out))
          clear hb8
          go_wp2_with fail
          go_roundw
          case rel => exact ⟨k + 1, _, f7, G, mc, by omega, by go_num, R8.out, HOB.out.later (by omega), HK.out.2, M8.out, by omega, N7.out, F7.out, B8.out⟩
          case measure => simp [intOf]; omega
        · skip
          have HKq := Lib.hid k3
          have HK := Lib.hid (And.intro (And.intro k1 k2) k4)
          clear k1 k2 k3 k4
          go_wp2_with fail
          refine wp_region_quiet_all (Ext _) (by kernel_rfl) (by kernel_rfl) (Ext.drawn _) ?_
          repeat (first | go_big_quiet_skip | go_big_quiet_step (fail) | (refine BigFrame.wpQuiet_want rfl (fun K hK => ?_); apply Exists.intro; refine ⟨fun w2 h2 => ?_, ?_⟩; (next => (have g1 := Below.cells h2.below; have g2 := Below.frozens h2.below; (try simp only [World.size_alloc, World.size_setCell] at g1 g2); first | (go_simp; (go_at_call 28; first | (with_reducible exact h2.calls (HWi.out _)) | (with_reducible exact h2.calls (HWu.out _)))) | (simp [go_sem, ↓IntWalk.iteOmega, *]; done) | (simp [go_sem, ↓IntWalk.iteOmega, *]; rfl)))); (go_simp; refine hK _ ?_; clear hK K))
          refine wpQuiet_nil ?_
          intro w4 h4
          have hb4 := h4.below
          clear h4
          have z4 := hb4.size
          have c4 := Below.cells hb4
          have f4 := Below.frozens hb4
          try simp only [World.size_alloc, World.size_setCell, World.size_drew] at z4 c4 f4
          go_wp2_with fail
          have R4 := Lib.hid (R3.out.below hb4)
          have B4 := Lib.hid (B3.out.trans (hb4.mono B3.out.size))
          have M4 := Lib.hid (M3.out.same (hb4.block B HBl.out))
          have Bl4 := Lib.hid (show B < w4.heap.size from Nat.lt_of_lt_of_le HBl.out hb4.size)
          clear hb4
          refine (HD.out _).mono ?_
          rintro e w5 ⟨rfl, hb5⟩
          have R5 := Lib.hid (R4.out.below hb5)
          have B5 := Lib.hid (B4.out.trans (hb5.mono B4.out.size))
          have M5 := Lib.hid (M4.out.same (hb5.block B Bl4.out))
          have Bl5 := Lib.hid (show B < w5.heap.size from Nat.lt_of_lt_of_le Bl4.out hb5.size)
          clear hb5
          have hsz : (nmT j).size = 1 := by
            unfold nmT
            split
            · rfl
            · split <;> rfl
          have qa := alloc_cells
          have qf := alloc_frozens
          have hbt : ∀ h : 0 < (nmT j).size, wrap64 (((nmT j)[0]'h).toNat : Int) = (97 + j : Int) := by
            intro h
            have e : ((nmT j)[0]'h).toNat = 97 + j := by
              rcases (show j = 0 ∨ j = 1 ∨ j = 2 by omega) with rfl | rfl | rfl <;> rfl
            rw [e, show ((97 + j : Nat) : Int) = 97 + (j : Int) by omega]
            exact IntWalk.wrap64_in (97 + (j : Int)) (by omega)
          obtain ⟨id, hid⟩ : ∃ id, nmT j = id := ⟨_, rfl⟩
          rw [hid] at hsz hbt ⊢
          clear hid
          go_wp2_with fail
          simp only [hbt]
          have b6 : Below w5.heap.size w5 ((w5.alloc (.cells #[.string id, .int .i64 0, .int .i64 q] 42)).alloc (.cells #[.int .i64 u, .int .i64 (97 + j)] 134)) := ((Below.refl w5.heap.size w5).alloc (Nat.le_refl _) _).alloc (by simp) _
          have y2 : ((w5.alloc (.cells #[.string id, .int .i64 0, .int .i64 q] 42)).alloc (.cells #[.int .i64 u, .int .i64 (97 + j)] 134)).cell? ⟨w5.heap.size, 2, none⟩ = some (.int .i64 q) := by simp [qa]
          have u0 : ((w5.alloc (.cells #[.string id, .int .i64 0, .int .i64 q] 42)).alloc (.cells #[.int .i64 u, .int .i64 (97 + j)] 134)).cell? ⟨w5.heap.size + 1, 0, none⟩ = some (.int .i64 u) := by simp [qa]
          have u1 : ((w5.alloc (.cells #[.string id, .int .i64 0, .int .i64 q] 42)).alloc (.cells #[.int .i64 u, .int .i64 (97 + j)] 134)).cell? ⟨w5.heap.size + 1, 1, none⟩ = some (.int .i64 (97 + j)) := by simp [qa]
          have z6 : ((w5.alloc (.cells #[.string id, .int .i64 0, .int .i64 q] 42)).alloc (.cells #[.int .i64 u, .int .i64 (97 + j)] 134)).heap.size = w5.heap.size + 2 := by simp
          have R6 := Lib.hid (R5.out.below b6)
          have B6 := Lib.hid (B5.out.trans (b6.mono B5.out.size))
          have M6 := Lib.hid (M5.out.same (b6.block B Bl5.out))
          have HFl := Lib.hid R5.out.lt
          generalize ((w5.alloc (.cells #[.string id, .int .i64 0, .int .i64 q] 42)).alloc (.cells #[.int .i64 u, .int .i64 (97 + j)] 134)) = w6 at y2 u0 u1 z6 R6 B6 M6 ⊢
          obtain ⟨pb, hpb⟩ : ∃ x, w5.heap.size = x := ⟨_, rfl⟩
          have Bl6 := Lib.hid (show B < w6.heap.size by have := Bl5.out; omega)
          have HPb := Lib.hid (show (∀ x, f x → x < pb) by rw [← hpb]; exact HFl.out)
          rw [hpb] at y2 u0 u1 z6 ⊢
          have Y := Lib.hid (And.intro y2 (And.intro u0 u1))
          have Z6 := Lib.hid z6
          clear b6 hpb y2 u0 u1 z6 qa qf hbt
          refine (HBo.out _ R6.out).mono ?_
          rintro e w7 ⟨A7, c7, e7, f7, rfl, h7, hf7, k7, gx, g7, gy⟩
          have E7 := g7 HK.out.1.1 HK.out.1.2
          subst E7
          clear gx g7 gy
          have R7 := Lib.hid h7
          have B7 := Lib.hid (B6.out.trans (k7.below B6.out.size HF.out))
          have F7 := Lib.hid (fun x hx => (hf7 x hx).elim (HF.out x) (fun h => Nat.le_trans B6.out.size h))
          have M7 := Lib.hid (M6.out.same (k7.block B Bl6.out HNB.out))
          have Bl7 := Lib.hid (show B < w7.heap.size from Nat.lt_of_lt_of_le Bl6.out k7.size)
          have N7 := Lib.hid (show ¬ f7 B from fun h => (hf7 B h).elim HNB.out (fun h => by have := Bl6.out; omega))
          have p0 : w7.heap[pb]? = w6.heap[pb]? := k7.block pb (by have := Z6.out; omega) (fun h => by have := HPb.out pb h; omega)
          have p1 : w7.heap[pb + 1]? = w6.heap[pb + 1]? := k7.block (pb + 1) (by have := Z6.out; omega) (fun h => by have := HPb.out (pb + 1) h; omega)
          have y2 : w7.cell? ⟨pb, 2, none⟩ = some (.int .i64 q) := (World.cell?_of_block (a := ⟨pb, 2, none⟩) p0).trans Y.out.1
          have u0 : w7.cell? ⟨pb + 1, 0, none⟩ = some (.int .i64 u) := (World.cell?_of_block (a := ⟨pb + 1, 0, none⟩) p1).trans Y.out.2.1
          have u1 : w7.cell? ⟨pb + 1, 1, none⟩ = some (.int .i64 (97 + j)) := (World.cell?_of_block (a := ⟨pb + 1, 1, none⟩) p1).trans Y.out.2.2
          have z7 : pb < w7.heap.size := by have := k7.size; have := Z6.out; omega
          have z7' : pb + 1 < w7.heap.size := by have := k7.size; have := Z6.out; omega
          clear h7 hf7 k7 p0 p1
          obtain ⟨gv, hgv⟩ : ∃ gv, G (arrK u (97 + j)) = gv := ⟨_, rfl⟩
          have hq := HKq.out
          rw [hgv] at hq
          have HRun := Lib.hid (fun (w' : World) (h : Below w7.heap.size w7 w') => (show (Instr.lookup 133 (.map (some B)) (.agg #[.int .i64 u, .int .i64 (97 + j)]) false).run Try.prog w' = .ok (.int .i64 gv) w' from by
            have := HKey.out.elim fun l hl => (M7.out.same (h.block B Bl7.out)).look arr_law Try.underlying133 hl
            rw [hgv] at this
            exact this))
          clear hgv
          have hq2 : decide (gv < q) = false := by simp; omega
          clear hq
          go_wp2_with fail
          refine wp_region_quiet_all (Ext _) (by kernel_rfl) (by kernel_rfl) (Ext.drawn _) ?_
          repeat (first | go_big_quiet_skip | go_big_quiet_step (fail) | (refine BigFrame.wpQuiet_want rfl (fun K hK => ?_); apply Exists.intro; refine ⟨fun w2 h2 => ?_, ?_⟩; (next => (have g1 := Below.cells h2.below; have g2 := Below.frozens h2.below; (try simp only [World.size_alloc, World.size_setCell] at g1 g2); first | (go_simp; (have hl := HRun.out _ h2.below; simp [go_sem, hl]; rfl)) | (simp [go_sem, ↓IntWalk.iteOmega, *]; done) | (simp [go_sem, ↓IntWalk.iteOmega, *]; rfl)))); (go_simp; refine hK _ ?_; clear hK K))
          refine wpQuiet_nil ?_
          intro w8 h8
          have hb8 := h8.below
          clear h8
          have R8 := Lib.hid (R7.out.below hb8)
          have B8 := Lib.hid (B7.out.trans (hb8.mono B7.out.size))
          have M8 := Lib.hid (M7.out.same (hb8.block B Bl7.out))
          clear hb8
          go_wp2_with fail
          go_roundw
          case rel => exact ⟨k + 1, _, f7, G, mc, by omega, by go_num, R8.out, HOB.out.later (by omega), HK.out.2, M8.out, by omega, N7.out, F7.out, B8.out⟩
          case measure => simp [intOf]; omega
        · skip
          have HKq := Lib.hid k3
          have HK := Lib.hid (And.intro (And.intro k1 k2) k4)
          clear k1 k2 k3 k4
          go_wp2_with fail
          refine wp_region_quiet_all (Ext _) (by kernel_rfl) (by kernel_rfl) (Ext.drawn _) ?_
          repeat (first | go_big_quiet_skip | go_big_quiet_step (fail) | (refine BigFrame.wpQuiet_want rfl (fun K hK => ?_); apply Exists.intro; refine ⟨fun w2 h2 => ?_, ?_⟩; (next => (have g1 := Below.cells h2.below; have g2 := Below.frozens h2.below; (try simp only [World.size_alloc, World.size_setCell] at g1 g2); first | (go_simp; (go_at_call 28; first | (with_reducible exact h2.calls (HWi.out _)) | (with_reducible exact h2.calls (HWu.out _)))) | (simp [go_sem, ↓IntWalk.iteOmega, *]; done) | (simp [go_sem, ↓IntWalk.iteOmega, *]; rfl)))); (go_simp; refine hK _ ?_; clear hK K))
          refine wpQuiet_nil ?_
          intro w4 h4
          have hb4 := h4.below
          clear h4
          have z4 := hb4.size
          have c4 := Below.cells hb4
          have f4 := Below.frozens hb4
          try simp only [World.size_alloc, World.size_setCell, World.size_drew] at z4 c4 f4
          go_wp2_with fail
          have R4 := Lib.hid (R3.out.below hb4)
          have B4 := Lib.hid (B3.out.trans (hb4.mono B3.out.size))
          have M4 := Lib.hid (M3.out.same (hb4.block B HBl.out))
          have Bl4 := Lib.hid (show B < w4.heap.size from Nat.lt_of_lt_of_le HBl.out hb4.size)
          clear hb4
          refine (HD.out _).mono ?_
          rintro e w5 ⟨rfl, hb5⟩
          have R5 := Lib.hid (R4.out.below hb5)
          have B5 := Lib.hid (B4.out.trans (hb5.mono B4.out.size))
          have M5 := Lib.hid (M4.out.same (hb5.block B Bl4.out))
          have Bl5 := Lib.hid (show B < w5.heap.size from Nat.lt_of_lt_of_le Bl4.out hb5.size)
          clear hb5
          have hsz : (nmT j).size = 1 := by
            unfold nmT
            split
            · rfl
            · split <;> rfl
          have qa := alloc_cells
          have qf := alloc_frozens
          have hbt : ∀ h : 0 < (nmT j).size, wrap64 (((nmT j)[0]'h).toNat : Int) = (97 + j : Int) := by
            intro h
            have e : ((nmT j)[0]'h).toNat = 97 + j := by
              rcases (show j = 0 ∨ j = 1 ∨ j = 2 by omega) with rfl | rfl | rfl <;> rfl
            rw [e, show ((97 + j : Nat) : Int) = 97 + (j : Int) by omega]
            exact IntWalk.wrap64_in (97 + (j : Int)) (by omega)
          obtain ⟨id, hid⟩ : ∃ id, nmT j = id := ⟨_, rfl⟩
          rw [hid] at hsz hbt ⊢
          clear hid
          go_wp2_with fail
          simp only [hbt]
          have b6 : Below w5.heap.size w5 ((w5.alloc (.cells #[.string id, .int .i64 0, .int .i64 q] 42)).alloc (.cells #[.int .i64 u, .int .i64 (97 + j)] 134)) := ((Below.refl w5.heap.size w5).alloc (Nat.le_refl _) _).alloc (by simp) _
          have y2 : ((w5.alloc (.cells #[.string id, .int .i64 0, .int .i64 q] 42)).alloc (.cells #[.int .i64 u, .int .i64 (97 + j)] 134)).cell? ⟨w5.heap.size, 2, none⟩ = some (.int .i64 q) := by simp [qa]
          have u0 : ((w5.alloc (.cells #[.string id, .int .i64 0, .int .i64 q] 42)).alloc (.cells #[.int .i64 u, .int .i64 (97 + j)] 134)).cell? ⟨w5.heap.size + 1, 0, none⟩ = some (.int .i64 u) := by simp [qa]
          have u1 : ((w5.alloc (.cells #[.string id, .int .i64 0, .int .i64 q] 42)).alloc (.cells #[.int .i64 u, .int .i64 (97 + j)] 134)).cell? ⟨w5.heap.size + 1, 1, none⟩ = some (.int .i64 (97 + j)) := by simp [qa]
          have z6 : ((w5.alloc (.cells #[.string id, .int .i64 0, .int .i64 q] 42)).alloc (.cells #[.int .i64 u, .int .i64 (97 + j)] 134)).heap.size = w5.heap.size + 2 := by simp
          have R6 := Lib.hid (R5.out.below b6)
          have B6 := Lib.hid (B5.out.trans (b6.mono B5.out.size))
          have M6 := Lib.hid (M5.out.same (b6.block B Bl5.out))
          have HFl := Lib.hid R5.out.lt
          generalize ((w5.alloc (.cells #[.string id, .int .i64 0, .int .i64 q] 42)).alloc (.cells #[.int .i64 u, .int .i64 (97 + j)] 134)) = w6 at y2 u0 u1 z6 R6 B6 M6 ⊢
          obtain ⟨pb, hpb⟩ : ∃ x, w5.heap.size = x := ⟨_, rfl⟩
          have Bl6 := Lib.hid (show B < w6.heap.size by have := Bl5.out; omega)
          have HPb := Lib.hid (show (∀ x, f x → x < pb) by rw [← hpb]; exact HFl.out)
          rw [hpb] at y2 u0 u1 z6 ⊢
          have Y := Lib.hid (And.intro y2 (And.intro u0 u1))
          have Z6 := Lib.hid z6
          clear b6 hpb y2 u0 u1 z6 qa qf hbt
          refine (HBo.out _ R6.out).mono ?_
          rintro e w7 ⟨A7, c7, e7, f7, rfl, h7, hf7, k7, g7, gx, gy⟩
          have E7 := g7 HK.out.1.1 HK.out.1.2
          subst E7
          clear gx g7 gy
          have R7 := Lib.hid h7
          have B7 := Lib.hid (B6.out.trans (k7.below B6.out.size HF.out))
          have F7 := Lib.hid (fun x hx => (hf7 x hx).elim (HF.out x) (fun h => Nat.le_trans B6.out.size h))
          have M7 := Lib.hid (M6.out.same (k7.block B Bl6.out HNB.out))
          have Bl7 := Lib.hid (show B < w7.heap.size from Nat.lt_of_lt_of_le Bl6.out k7.size)
          have N7 := Lib.hid (show ¬ f7 B from fun h => (hf7 B h).elim HNB.out (fun h => by have := Bl6.out; omega))
          have p0 : w7.heap[pb]? = w6.heap[pb]? := k7.block pb (by have := Z6.out; omega) (fun h => by have := HPb.out pb h; omega)
          have p1 : w7.heap[pb + 1]? = w6.heap[pb + 1]? := k7.block (pb + 1) (by have := Z6.out; omega) (fun h => by have := HPb.out (pb + 1) h; omega)
          have y2 : w7.cell? ⟨pb, 2, none⟩ = some (.int .i64 q) := (World.cell?_of_block (a := ⟨pb, 2, none⟩) p0).trans Y.out.1
          have u0 : w7.cell? ⟨pb + 1, 0, none⟩ = some (.int .i64 u) := (World.cell?_of_block (a := ⟨pb + 1, 0, none⟩) p1).trans Y.out.2.1
          have u1 : w7.cell? ⟨pb + 1, 1, none⟩ = some (.int .i64 (97 + j)) := (World.cell?_of_block (a := ⟨pb + 1, 1, none⟩) p1).trans Y.out.2.2
          have z7 : pb < w7.heap.size := by have := k7.size; have := Z6.out; omega
          have z7' : pb + 1 < w7.heap.size := by have := k7.size; have := Z6.out; omega
          clear h7 hf7 k7 p0 p1
          obtain ⟨gv, hgv⟩ : ∃ gv, G (arrK u (97 + j)) = gv := ⟨_, rfl⟩
          have hq := HKq.out
          rw [hgv] at hq
          have HRun := Lib.hid (fun (w' : World) (h : Below w7.heap.size w7 w') => (show (Instr.lookup 133 (.map (some B)) (.agg #[.int .i64 u, .int .i64 (97 + j)]) false).run Try.prog w' = .ok (.int .i64 gv) w' from by
            have := HKey.out.elim fun l hl => (M7.out.same (h.block B Bl7.out)).look arr_law Try.underlying133 hl
            rw [hgv] at this
            exact this))
          clear hgv
          have hq2 : decide (q ≤ gv) = false := by simp; omega
          clear hq
          go_wp2_with fail
          refine wp_region_quiet_all (Ext _) (by kernel_rfl) (by kernel_rfl) (Ext.drawn _) ?_
          repeat (first | go_big_quiet_skip | go_big_quiet_step (fail) | (refine BigFrame.wpQuiet_want rfl (fun K hK => ?_); apply Exists.intro; refine ⟨fun w2 h2 => ?_, ?_⟩; (next => (have g1 := Below.cells h2.below; have g2 := Below.frozens h2.below; (try simp only [World.size_alloc, World.size_setCell] at g1 g2); first | (go_simp; (have hl := HRun.out _ h2.below; simp [go_sem, hl]; rfl)) | (simp [go_sem, ↓IntWalk.iteOmega, *]; done) | (simp [go_sem, ↓IntWalk.iteOmega, *]; rfl)))); (go_simp; refine hK _ ?_; clear hK K))
          refine wpQuiet_nil ?_
          intro w8 h8
          have hb8 := h8.below
          clear h8
          have R8 := Lib.hid (R7.out.below hb8)
          have B8 := Lib.hid (B7.out.trans (hb8.mono B7.out.size))
          have M8 := Lib.hid (M7.out.same (hb8.block B Bl7.out))
          have y8 := (hb8.cell (p := ⟨pb, 2, none⟩) z7).trans y2
          have v0 := (hb8.cell (p := ⟨pb + 1, 0, none⟩) z7').trans u0
          have v1 := (hb8.cell (p := ⟨pb + 1, 1, none⟩) z7').trans u1
          clear hb8 y2 u0 u1
          obtain ⟨lk, hlk⟩ := HKey.out
          have HLk := Lib.hid hlk
          clear hlk
          go_wp2_with (at_mapUpdate; refine wpList_mapN rfl _ _ _ rfl rfl M8.out arr_law Try.underlying133 (by unfold maxLen; omega) (arrK u (97 + j)) q rfl rfl HLk.out HQ.out ?_)
          intro w9 G9 g1 g2 hM9 hg9
          have HSn := Lib.hid (HK.out.2 G9 g1 g2)
          have M9 := Lib.hid hM9
          have R9 := Lib.hid (R8.out.same ⟨hg9.size, fun x hx hfx => hg9.block x hx (fun e => N7.out (by simp only [Option.some.injEq] at e; rw [e] at hfx; exact hfx))⟩)
          have B9 := Lib.hid (B8.out.grown hg9 B8.out.size (fun j hj => by simp only [Option.some.injEq] at hj; omega))
          clear hM9 hg9 g1 g2 y8 v0 v1
          go_wp2_with fail
          go_roundw
          case rel => exact ⟨k + 1, _, f7, G9, mc + 1, by omega, by go_num, R9.out, HOB.out.later (by omega), HSn.out, M9.out, by omega, N7.out, F7.out, B9.out⟩
          case measure => simp [intOf]; omega
    · obtain rfl : n = k := by omega
      have hok2 := (hok.later (T' := 1600) (by omega)).stop
      have HSt := Lib.hid (fun w' (h : TRep w' t S f) => tstop_ok (i := 2) w' h (by rw [hok.tok.sn]; omega) (by rw [hok.dead]; rfl))
      obtain ⟨S0, hS0⟩ : ∃ x, stopN S 2 = x := ⟨_, rfl⟩
      rw [hS0] at HSt hok2
      have HOk0 := Lib.hid hok2
      have HRep0 := Lib.hid hrep
      have HF0 := Lib.hid hf
      have HBe0 := Lib.hid bel
      clear hok hok2 hrep hf bel hS0 hse hmp hmc hnb
      go_wp2_with fail
      refine (HSt.out _ HRep0.out).mono ?_
      rintro e w3 ⟨rfl, h3, k3⟩
      have R3 := Lib.hid h3
      have B3 := Lib.hid (HBe0.out.trans (k3.below sz0 HF0.out))
      clear h3 k3
      go_wp2_with fail
      go_loopw [151] (fun _ wr => ∃ (S' : TSt) (f' : Nat → Prop), TRep wr t S' f' ∧ TopT (1600) Th twoD S' ∧ S'.nd = S0.nd ∧ (∀ x, f' x → w.heap.size ≤ x) ∧ Below w.heap.size w wr) (fun _ wr => wayLen wr t)
      case atStart => exact ⟨S0, _, R3.out, HOk0.out, rfl, HF0.out, B3.out⟩
      case round =>
        obtain ⟨wy, rfl⟩ : ∃ z : World, z = wr := ⟨_, rfl⟩
        obtain ⟨S1, f1, hrep, hok, hnd, hf, bel⟩ := hrel
        have szy := bel.size
        obtain ⟨y, hy⟩ : ∃ y, S1.way.length = y := ⟨_, rfl⟩
        have hy1000 := hok.tok.len
        have HWy := Lib.hid (fun w' (h : TRep w' t S1 f1) => tway_ok w' h (by omega))
        rw [hy] at HWy hy1000
        have HWl := Lib.hid (hrep.wayLen.trans hy)
        have HOk := Lib.hid hok
        have HNd := Lib.hid hnd
        have HRep := Lib.hid hrep
        have HF := Lib.hid hf
        have HBe := Lib.hid bel
        have HY := Lib.hid hy
        clear hok hnd hrep hf bel hy
        by_cases hy0 : y = 0
        · subst hy0
          have hnil := Lib.hid (show S1.way = [] from List.eq_nil_of_length_eq_zero HY.out)
          have hel0 := Lib.hid (show 300 * ((0 : Nat) : Int) ≤ (S1.nd 0).now - (prT (S1.nd 0) (nmT 2)).last by
            have hk : has (S1.nd 0).peers (nmT 2) = true := HOk.out.tok.knows 0 2 (by omega) (by omega)
            have := ((HOk.out.tok.tn 0 (by omega)).ok.at (has_lt hk)).2.2
            have e : prT (S1.nd 0) (nmT 2) = (S1.nd 0).peers.getD (pos (S1.nd 0).peers (nmT 2)) default := rfl
            rw [e]
            omega)
          go_wp2_with fail
          refine (HWy.out _ HRep.out).mono ?_
          rintro e w4 ⟨A4, c4, rfl, _, hb4⟩
          have R4 := Lib.hid (HRep.out.below hb4)
          have B4 := Lib.hid (HBe.out.trans (hb4.mono szy))
          clear hb4
          go_wp2_with fail
          go_loopw [20, 158] (fun b i wr => ∃ (k : Nat) (S : TSt) (f : Nat → Prop) (wb : Bool), k ≤ 300 ∧ b = .bool wb ∧ i = .int .i64 k ∧ TRep wr t S f ∧ TopT (1600 + 300 * k) Th twoD S ∧ S.way = [] ∧ 300 * (k : Int) ≤ (S.nd 0).now - (prT (S.nd 0) (nmT 2)).last ∧ (wb = true → Th ≤ levN (S.nd 0) (nmT 2)) ∧ (48 ≤ k → wb = true) ∧ (∀ x, f x → w.heap.size ≤ x) ∧ Below w.heap.size w wr) (fun _ i _ => 300 - (intOf i).toNat)
          case atStart => exact ⟨0, S1, f1, false, Nat.zero_le _, rfl, rfl, R4.out, HOk.out.later (by omega), hnil.out, hel0.out, (fun h => by cases h), (fun h => by omega), HF.out, B4.out⟩
          case round =>
            obtain ⟨wx4, rfl⟩ : ∃ z : World, z = wr := ⟨_, rfl⟩
            clear R4 B4 hel0 hnil HOk HNd HRep HF HBe HY HWy HWl
            obtain ⟨k, S, f, wb, hk, rfl, rfl, hrep, hok, hw0, hel, hlow, h48, hf, bel⟩ := hrel
            have szx := bel.size
            by_cases hlt : k < 300
            · have kw : IntKind.i64.wrap ((k : Int) + 1) = (k : Int) + 1 := IntWalk.i64_in _ (by omega)
              have kl : (k : Int) < 300 := by omega
              have tk1 := hok.tickOK (g := 300) (by omega) (by omega)
              have hsm := sumM_bd tk1 3 (by rw [hok.tok.sn]; omega)
              have hle : S.way.length + sumM S 300 3 ≤ 1000 := by rw [hw0]; simp; omega
              have HT := Lib.hid (fun w' (h : TRep w' t S f) => ttick_ok w' h tk1)
              rw [hok.tok.sn] at HT
              obtain ⟨o2, lv2, nw2, pr2, su2⟩ := hok.tick (g := 300) rfl rfl (by omega) (by omega) hle
              have HLow := Lib.hid (fun (h : wb = true) => Int.le_trans (hlow h) lv2)
              have HEl := Lib.hid (show 300 * ((k + 1 : Nat) : Int) ≤ ((twS S 300 3).nd 0).now - (prT ((twS S 300 3).nd 0) (nmT 2)).last by rw [nw2, pr2]; omega)
              have HSu := Lib.hid (su2 rfl)
              have HO2 := Lib.hid o2
              have HLe := Lib.hid hle
              obtain ⟨S2, hS2⟩ : ∃ x, twS S 300 3 = x := ⟨_, rfl⟩
              rw [hS2] at HT HLow HEl HO2
              obtain ⟨N, hN⟩ : ∃ x, twN S 300 3 = x := ⟨_, rfl⟩
              rw [hN] at HT HSu
              obtain ⟨p, hp⟩ : ∃ p, N.length = p := ⟨_, rfl⟩
              rw [hp] at HT
              have HP := Lib.hid hp
              have HRep := Lib.hid hrep
              have HF := Lib.hid hf
              have HBe := Lib.hid bel
              clear tk1 hsm hle o2 lv2 nw2 pr2 su2 hS2 hN hp hok hw0 hel hlow h48 hrep hf bel
              go_wp2_with fail
              refine (HT.out _ HRep.out).mono ?_
              rintro e w5 (⟨h, _, _⟩ | ⟨_, A5, c5, f5, rfl, own5, h5, hf5, k5⟩)
              · exact absurd h (by have := HLe.out; omega)
              have NR := Lib.hid (noteRow_own own5 HP.out)
              have pb := own_le own5
              have R5 := Lib.hid h5
              have B5 := Lib.hid (HBe.out.trans (k5.below szx HF.out))
              have F5 := Lib.hid (fun x hx => (hf5 x hx).elim (HF.out x) (fun h => Nat.le_trans szx h))
              clear h5 hf5 k5 own5
              go_wp2_with fail
              go_loopw [169] (fun i wr => ∃ j : Nat, j ≤ p ∧ i = .int .i64 j ∧ Below w5.heap.size w5 wr) (fun i _ => p - (intOf i).toNat)
              case atStart => exact ⟨0, Nat.zero_le _, rfl, Below.refl _ _⟩
              case round =>
                obtain ⟨wz, rfl⟩ : ∃ z : World, z = wr := ⟨_, rfl⟩
                obtain ⟨j, hj, rfl, belx⟩ := hrel
                have szz := belx.size
                by_cases hjp : j < p
                · obtain ⟨bn, on, rfl, _, n0, n1, n2⟩ := (NR.out.below belx).at hjp
                  obtain ⟨x, hx⟩ : ∃ x, N.getD j default = x := ⟨_, rfl⟩
                  rw [hx] at n0 n1 n2
                  rw [HSu.out x (by rw [← hx]; exact getD_mem (by have := HP.out; omega))] at n2
                  have jw : IntKind.i64.wrap ((j : Int) + 1) = (j : Int) + 1 := IntWalk.i64_in _ (by omega)
                  have HBx := Lib.hid belx
                  have qa := alloc_cells
                  have qf := alloc_frozens
                  have hlt' : (j : Int) < p := by omega
                  clear hx belx
                  go_wp2_with fail
                  go_roundw
                  case rel => exact ⟨j + 1, by omega, by go_num, HBx.out.trans ((Below.refl _ _).alloc szz _)⟩
                  case measure => simp [intOf]; omega
                · obtain rfl : p = j := by omega
                  have R6 := Lib.hid (R5.out.below belx)
                  have B6 := Lib.hid (B5.out.trans (belx.mono B5.out.size))
                  clear belx
                  go_wp2_with fail
                  go_loopw [177] (fun _ wr => ∃ (S' : TSt) (f' : Nat → Prop), TRep wr t S' f' ∧ TopT (1600 + 300 * ((k + 1 : Nat) : Int)) Th twoD S' ∧ S'.nd = S2.nd ∧ (∀ x, f' x → w.heap.size ≤ x) ∧ Below w.heap.size w wr) (fun _ wr => wayLen wr t)
                  case atStart => exact ⟨S2, _, R6.out, HO2.out.later (by omega), rfl, F5.out, B6.out⟩
                  case round =>
                    obtain ⟨wy, rfl⟩ : ∃ z : World, z = wr := ⟨_, rfl⟩
                    obtain ⟨S1, f1, hrep, hok, hnd, hf, bel⟩ := hrel
                    have szy := bel.size
                    obtain ⟨y, hy⟩ : ∃ y, S1.way.length = y := ⟨_, rfl⟩
                    have hy1000 := hok.tok.len
                    have HWy := Lib.hid (fun w' (h : TRep w' t S1 f1) => tway_ok w' h (by omega))
                    rw [hy] at HWy hy1000
                    have HWl := Lib.hid (hrep.wayLen.trans hy)
                    have HOk := Lib.hid hok
                    have HNd := Lib.hid hnd
                    have HRep := Lib.hid hrep
                    have HF := Lib.hid hf
                    have HBe := Lib.hid bel
                    have HY := Lib.hid hy
                    clear hok hnd hrep hf bel hy
                    by_cases hy0 : y = 0
                    · subst hy0
                      have hnil := Lib.hid (show S1.way = [] from List.eq_nil_of_length_eq_zero HY.out)
                      have o5 := HOk.out
                      have HMx := Lib.hid HNd.out
                      obtain ⟨vk, hvk⟩ : ∃ vk, levN (S2.nd 0) (nmT 2) = vk := ⟨_, rfl⟩
                      have HLv := Lib.hid (fun w' (h : TRep w' t S1 f1) => tlevel_ok (i := 0) w' (nmT 2) h (by rw [o5.tok.sn]; omega) (by rw [o5.dead]; rfl) (o5.tok.tn 0 (by omega)).ok vk 0 (by rw [HNd.out]; exact hvk) (by rw [o5.tok.knows 0 2 (by omega) (by omega)]; rfl))
                      have hel1 := HEl.out
                      rw [← HNd.out] at hel1
                      have hlo : wb = true → Th ≤ vk := fun h => by
                        have := HLow.out h
                        omega
                      have hhi : 48 ≤ k + 1 → Th ≤ vk := fun h => by
                        rw [← hvk, ← HNd.out]
                        exact o5.high (by omega) (by omega)
                      have HVk := Lib.hid hvk
                      clear o5 hvk hel1
                      go_wp2_with fail
                      refine (HWy.out _ HRep.out).mono ?_
                      rintro e w7 ⟨A7, c7, rfl, _, hb7⟩
                      have R7 := Lib.hid (HRep.out.below hb7)
                      have B7 := Lib.hid (HBe.out.trans (hb7.mono szy))
                      clear hb7
                      go_wp2_with fail
                      refine (HLv.out _ R7.out).mono ?_
                      rintro e w8 ⟨rfl, hb8⟩
                      have R8 := Lib.hid (R7.out.below hb8)
                      have B8 := Lib.hid (B7.out.trans (hb8.mono B7.out.size))
                      clear hb8
                      by_cases hge : Th ≤ vk
                      · have hlt3 : ¬ vk < Th := by omega
                        clear hlo hhi
                        cases wb
                        all_goals
                          go_wp2_with fail
                          go_roundw
                          case rel => exact ⟨k + 1, S1, f1, true, by omega, by simp, by go_num, R8.out, HOk.out.later (by omega), hnil.out, by have := HEl.out; rw [HNd.out]; omega, fun _ => by rw [HNd.out, HVk.out]; exact hge, fun _ => rfl, HF.out, B8.out⟩
                          case measure => simp [intOf]; omega
                      · have hwb : wb = false := by
                          cases wb
                          · rfl
                          · exact absurd (hlo rfl) hge
                        have hk48 : ¬ 48 ≤ k + 1 := fun h => hge (hhi h)
                        subst hwb
                        have hge' : decide (Th ≤ vk) = false := by simp; omega
                        clear hlo hhi
                        go_wp2_with fail
                        go_roundw
                        case rel => exact ⟨k + 1, S1, f1, false, by omega, by simp, by go_num, R8.out, HOk.out.later (by omega), hnil.out, by have := HEl.out; rw [HNd.out]; omega, (fun h => by cases h), fun h => absurd h hk48, HF.out, B8.out⟩
                        case measure => simp [intOf]; omega
                    · have hy' : (0 : Int) < (y : Int) := by omega
                      have HLo := Lib.hid (fun w' (h : TRep w' t S1 f1) => tlose_ok (i := 0) w' h (by rw [HY.out]; omega) (by rw [HY.out]; omega))
                      have O4 := Lib.hid (HOk.out.lose 0)
                      have hel4 : (S1.way.eraseIdx 0).length < y := by
                        rw [List.length_eraseIdx, if_pos (by rw [HY.out]; omega), HY.out]
                        omega
                      have HEl4 := Lib.hid hel4
                      clear hel4
                      go_wp2_with fail
                      refine (HWy.out _ HRep.out).mono ?_
                      rintro e w4 ⟨A4, c4, rfl, _, hb4⟩
                      have R4 := Lib.hid (HRep.out.below hb4)
                      have B4 := Lib.hid (HBe.out.trans (hb4.mono szy))
                      clear hb4
                      go_wp2_with fail
                      refine (HLo.out _ R4.out).mono ?_
                      rintro e w5 ⟨rfl, ⟨f5, h5, hf5⟩, k5⟩
                      have R5 := Lib.hid h5
                      have B5 := Lib.hid (B4.out.trans (k5.below B4.out.size HF.out))
                      have F5 := Lib.hid (fun x hx => HF.out x (hf5 x hx))
                      clear h5 hf5 k5
                      go_wp2_with fail
                      go_roundw
                      case rel => exact ⟨_, f5, R5.out, O4.out, HNd.out, F5.out, B5.out⟩
                      case measure =>
                        have h1 := R5.out.wayLen
                        have h2 := HEl4.out
                        have h3 := HWl.out
                        show wayLen w5 t < wayLen wy t
                        rw [h1, h3]
                        exact h2
            · obtain rfl : k = 300 := by omega
              have hwb := h48 (by omega)
              subst hwb
              have HBe := Lib.hid bel
              clear hok hw0 hel hlow h48 hrep hf bel
              go_wp2_with fail
              go_ret
              exact ⟨rfl, HBe.out⟩
        · have hy' : (0 : Int) < (y : Int) := by omega
          have HLo := Lib.hid (fun w' (h : TRep w' t S1 f1) => tlose_ok (i := 0) w' h (by rw [HY.out]; omega) (by rw [HY.out]; omega))
          have O4 := Lib.hid (HOk.out.lose 0)
          have hel4 : (S1.way.eraseIdx 0).length < y := by
            rw [List.length_eraseIdx, if_pos (by rw [HY.out]; omega), HY.out]
            omega
          have HEl4 := Lib.hid hel4
          clear hel4
          go_wp2_with fail
          refine (HWy.out _ HRep.out).mono ?_
          rintro e w4 ⟨A4, c4, rfl, _, hb4⟩
          have R4 := Lib.hid (HRep.out.below hb4)
          have B4 := Lib.hid (HBe.out.trans (hb4.mono szy))
          clear hb4
          go_wp2_with fail
          refine (HLo.out _ R4.out).mono ?_
          rintro e w5 ⟨rfl, ⟨f5, h5, hf5⟩, k5⟩
          have R5 := Lib.hid h5
          have B5 := Lib.hid (B4.out.trans (k5.below B4.out.size HF.out))
          have F5 := Lib.hid (fun x hx => HF.out x (hf5 x hx))
          clear h5 hf5 k5
          go_wp2_with fail
          go_roundw
          case rel => exact ⟨_, f5, R5.out, O4.out, HNd.out, F5.out, B5.out⟩
          case measure =>
            have h1 := R5.out.wayLen
            have h2 := HEl4.out
            have h3 := HWl.out
            show wayLen w5 t < wayLen wy t
            rw [h1, h3]
            exact h2
end Go.Proofs.Ytpomdnglknbanaa
