
/-
  Maps that the call makes, of integers and of Booleans, at keys of any kind; keys that are a name and a number.
  town.New: the configs, the town's own block.
  hwkeep's townBegun and two.
  A town in plain Lean: what holds of its nodes and of what is under way, whatever is asked of it.
-/
import Derived.Test.YtpomdnglknbanaaGreatKs
import Derived.Maps.Own
import Derived.Maps.Views
import Derived.StringKeys
import Derived.DeepKeys4
import Derived.Test.YtpomdnglknbanaaGreatTy
import Derived.Test.YtpomdnglknbanaaGreatQM
import Derived.Maps.OwnOps
import Derived.Deep.DeepCutAuto
set_option linter.unusedSimpArgs false
set_option linter.unusedVariables false
namespace Go.Proofs.YtpomdnglknbanaaGreat
open Go Go.RowKit Go.Maps
open Go.WideMaps (keyOf_string_mk)
def MapB (k : TypeId) (w : World) (B n : Nat) (F : Value → Bool) : Prop :=
  ∃ D : DataW Unit, w.ownsMap Tryz.prog k (plainElem Tryz.prog 4) B n D ∧ ∀ key l, keyOf Tryz.prog k key = some l → D.atKey l (.lit (.bool false)) = .lit (.bool (F key))
theorem MapB.made (k : TypeId) (w : World) : MapB k (w.alloc (.map #[] 0)) w.heap.size 0 (fun _ => false) :=
  ⟨.map [], World.ownsMap_made _ _ _ _, fun _ _ _ => rfl⟩
theorem MapB.lt {k : TypeId} {w : World} {B n : Nat} {F : Value → Bool} (h : MapB k w B n F) : B < w.heap.size := by obtain ⟨D, h1, _⟩ := h; exact h1.lt
theorem MapB.same {k : TypeId} {w w' : World} {B n : Nat} {F : Value → Bool} (h : MapB k w B n F) (hs : w'.heap[B]? = w.heap[B]?) : MapB k w' B n F := by
  obtain ⟨D, ⟨es, clock, h1, h2⟩, h3⟩ := h
  exact ⟨D, ⟨es, clock, hs.trans h1, h2⟩, h3⟩
theorem plain_bool {P : Program} {e : TypeId} (he : P.underlying e = some .bool) {v : Value} {z : DataW Unit × List MemPlace} (h : plainElem P e v = some z) : ∃ x, v = .bool x ∧ z = (.lit (.bool x), []) := by
  unfold plainElem at h
  rw [he] at h
  cases v <;> simp at h
  rename_i x
  exact ⟨x, rfl, h.symm⟩
theorem MapB.look {k T : TypeId} {w : World} {B n : Nat} {F : Value → Bool} (h : MapB k w B n F) (K : Keyed Tryz.prog k) (ht : Tryz.prog.underlying T = some (.map k 4)) {key : Value} {l : Lit} (hkey : keyOf Tryz.prog k key = some l) :
    (Instr.lookup T (.map (some B)) key false).run Tryz.prog w = .ok (.bool (F key)) w := by
  obtain ⟨D, h1, h2⟩ := h
  obtain ⟨v, ps, hrun, hv⟩ := h1.lookup K ht (Tryz.zeroValue4 w) (plainElem_bool Tryz.underlying4 false) hkey
  obtain ⟨x, rfl, hx⟩ := plain_bool Tryz.underlying4 hv
  simp only [Prod.mk.injEq] at hx
  have := hx.1
  rw [h2 key l hkey] at this
  simp only [DataW.lit.injEq, Lit.bool.injEq] at this
  rw [this]
  exact hrun
open Classical in
theorem MapB.put {k T : TypeId} {w : World} {B n : Nat} {F : Value → Bool} (h : MapB k w B n F) (K : Keyed Tryz.prog k) (ht : Tryz.prog.underlying T = some (.map k 4)) (hn : n < maxLen) {key : Value} {l : Lit} (hkey : keyOf Tryz.prog k key = some l) (c : Bool) :
    ∃ w', (Instr.mapUpdate T (.map (some B)) key (.bool c)).run Tryz.prog w = .ok () w' ∧ MapB k w' B (n + 1) (fun x => if x = key then c else F x) ∧ w.grownBy w' (some B) := by
  obtain ⟨D, h1, h2⟩ := h
  obtain ⟨w', hrun, hown, hg⟩ := h1.update K ht hn hkey (plainElem_bool Tryz.underlying4 c)
  refine ⟨w', hrun, ⟨_, hown, fun x lx hx => ?_⟩, hg⟩
  by_cases e : x = key
  · subst e
    dsimp only
    rw [hkey] at hx
    cases hx
    rw [if_pos rfl, atKey_put_same h1.isMap (K.key hkey)]
  · dsimp only
    rw [if_neg e, atKey_put_other (fun he => e (by subst he; exact K.inj hx hkey))]
    exact h2 x lx hx
open Classical in
theorem wpList_mapB {k T : TypeId} {w : World} {ops : Array Oper} {rest : List Oper} {o : Oper} {a : Act} {Q : Exit → Act → World → Prop} (hg : o.guard = none) (m x v : Operand) (hop : o.op = Op.mapUpdate T m x v)
    {B n : Nat} {F : Value → Bool} (hm : a.eval m = .map (some B)) (h : MapB k w B n F) (K : Keyed Tryz.prog k) (ht : Tryz.prog.underlying T = some (.map k 4)) (hn : n < maxLen) (key : Value) (c : Bool) (hx : a.eval x = key) (hv : a.eval v = .bool c) {l : Lit} (hkey : keyOf Tryz.prog k key = some l)
    (hK : ∀ w' F', F' key = c → (∀ x, x ≠ key → F' x = F x) → MapB k w' B (n + 1) F' → w.grownBy w' (some B) → wpList Tryz.prog ops Q rest (a.put o.dst undef) w') :
    wpList Tryz.prog ops Q (o :: rest) a w := by
  refine wpList_plain hg fun K' hK' => ?_
  obtain ⟨w', hrun, r1, r2⟩ := h.put K ht hn hkey c
  unfold Oper.wp
  simp [execOp, hop, hm, hx, hv, hrun, Result.andThen]
  exact hK' _ _ (hK w' _ (if_pos rfl) (fun x hx => if_neg hx) r1 r2)
/-! A name and a number. -/
def whoV (id : ByteArray) (th : Int) : Value := .agg #[.string id, .int .i64 th]
theorem laid0 : laidOutB Tryz.prog = true := by kernel_rfl
end Go.Proofs.YtpomdnglknbanaaGreat
namespace Go.Proofs.YtpomdnglknbanaaGreat
open Go Go.RowKit
/-- A config, its incarnation 0. -/
structure Cfg where
  id : ByteArray
  every : Int
  cap : Int
  least : Int
/-- A node as town.New leaves it. -/
def cfS (c : Cfg) : NSt := ⟨c.id, 0, c.every, c.cap, c.least, 0, 0, 0, [], []⟩
def wpP (C : Nat → Cfg) (j : Nat) : Nat → List Peer
  | 0 => []
  | k + 1 => if k = j then wpP C j k else addS (newP (C k).id (C j).cap (C k).every 0) (wpP C j k)
theorem wpP_succ (C : Nat → Cfg) (j k : Nat) : wpP C j (k + 1) = if k = j then wpP C j k else addS (newP (C k).id (C j).cap (C k).every 0) (wpP C j k) := rfl
def wpS (C : Nat → Cfg) (j k : Nat) : NSt := { cfS (C j) with peers := wpP C j k }
/-- The town while its nodes begin to watch: those ahead of i do, the i-th those ahead of k. -/
def stN (C : Nat → Cfg) (n i k : Nat) : TSt := ⟨n, fun j => if j < i then wpS C j n else if j = i then wpS C j k else wpS C j 0, fun _ => false, []⟩
structure CfgOK (c : Cfg) : Prop where
  id : IdOK (byts c.id)
  every : 1 ≤ c.every ∧ c.every ≤ 16777216
  cap : 1 ≤ c.cap ∧ c.cap ≤ 64
  least : 1 ≤ c.least ∧ c.least ≤ 16777216
def cfC (c : Cfg) : List Value := [.string c.id, .int .i64 0, .int .i64 c.every, .int .i64 c.cap, .int .i64 c.least]
def cfgV (C : Nat → Cfg) (n : Nat) : List Value := (List.range n).flatMap fun j => cfC (C j)
theorem cfgV_one (C : Nat → Cfg) (n : Nat) : ∀ u ∈ cfgV C n, u.oneCell' = true := by
  intro u hu
  obtain ⟨j, _, hj⟩ := List.mem_flatMap.1 hu
  simp [cfC] at hj
  rcases hj with rfl | rfl | rfl | rfl | rfl <;> rfl
theorem cfgV_len (C : Nat → Cfg) (n : Nat) : (cfgV C n).length = n * 5 := by
  induction n with
  | zero => rfl
  | succ n ih =>
    unfold cfgV at ih ⊢
    rw [flat_succ, List.length_append, ih]
    simp [cfC]; omega
theorem cfgV_get (C : Nat → Cfg) {n k i : Nat} (hk : k < n) (hi : i < 5) : (cfgV C n)[k * 5 + i]? = (cfC (C k))[i]? := by
  induction n with
  | zero => omega
  | succ n ih =>
    have hl := cfgV_len C n
    unfold cfgV at ih hl ⊢
    rw [flat_succ]
    rcases Nat.lt_or_ge k n with h | h
    · rw [List.getElem?_append_left (by omega)]
      exact ih h
    · obtain rfl : k = n := by omega
      rw [List.getElem?_append_right (by omega), hl, show k * 5 + i - k * 5 = i by omega]
theorem info_cfg : (Tryz.prog.info? 76).map (fun i => (i.zero, i.size, i.bytes)) = some (some (.agg #[.string ⟨#[]⟩, .int .i64 0, .int .i64 0, .int .i64 0, .int .i64 0]), 5, 48) := by kernel_rfl
theorem info_cfgs : Tryz.prog.underlying 80 = some (.slice 76) := by kernel_rfl
theorem info_ptr : (Tryz.prog.info? 37).map (fun i => (i.zero, i.size, i.bytes)) = some (some (.pointer none), 1, 8) := by kernel_rfl
theorem info_bool : (Tryz.prog.info? 4).map (fun i => (i.zero, i.size, i.bytes)) = some (some (.bool false), 1, 1) := by kernel_rfl
/-- The k-th config, read. -/
theorem cfg_at {w : World} {base n c : Nat} {A : Option Addr} {C : Nat → Cfg} (h : w.ownsRow base 76 5 (.slice A n c) n (cfgV C n)) {k : Nat} (hk : k < n) : ∃ g, A = some ⟨g, 0, none⟩ ∧ g < w.heap.size ∧ base ≤ g ∧ ∀ i, i < 5 → w.cell? ⟨g, k * 5 + i, none⟩ = (cfC (C k))[i]? := by
  have h4 := h
  rcases h.2 with ⟨_, h0⟩ | ⟨g, c', cur, he, hbg, hg, _⟩
  · omega
  simp only [Value.slice.injEq] at he
  obtain ⟨rfl, _, rfl⟩ := he
  refine ⟨g, rfl, (Array.getElem?_eq_some_iff.1 hg).1, hbg, fun i hi => ?_⟩
  have hs := cfgV_get C hk hi
  have hi' : i < (cfC (C k)).length := by simpa [cfC] using hi
  have := h4.cells (g := g) rfl (k * 5 + i) ((cfC (C k))[i]) (by rw [hs, List.getElem?_eq_getElem hi'])
  rw [Go.WideShapes.add_plain, Nat.zero_add] at this
  rw [this, List.getElem?_eq_getElem hi']
set_option maxRecDepth 100000 in
set_option maxHeartbeats 4000000 in
theorem cloneC_ok (A : Option Addr) (n c base : Nat) (C : Nat → Cfg) (w : World) (own : w.ownsRow base 76 5 (.slice A n c) n (cfgV C n)) (hn : n ≤ 1000) :
    Calls Tryz.prog 54 #[.slice A n c] w fun e w' => ∃ A' c', e = .returned (.slice A' n c') ∧ w'.ownsRow w.heap.size 76 5 (.slice A' n c') n (cfgV C n) ∧ Below w.heap.size w w' := by
  have hq := fun (w : World) => Lib.run_eql_slice_nil (P := Tryz.prog) w 80 76 A n c 0 0 info_cfgs
  have hxl := own.1
  rcases own_base0 own with ⟨rfl, rfl⟩ | ⟨g, rfl⟩
  · have h0 : cfgV C 0 = [] := List.eq_nil_of_length_eq_zero (by rw [hxl])
    rw [h0]
    clear own h0 hxl
    simp only [Option.isNone] at hq
    go_enter Tryz.func54, Tryz.ntmps54
    go_wp2_with fail
    go_ret
    exact ⟨_, _, rfl, World.ownsRow_nil _ _ _ _, Below.refl _ _⟩
  · simp only [Option.isNone] at hq
    obtain ⟨i0, hi, hz0, hz1, hz2⟩ := info_parts info_cfg
    have hca : ∀ j u, (cfgV C n)[j]? = some u → w.cell? ((⟨g, 0, none⟩ : Addr).add j) = some u := fun j u hu => own.cells (g := g) rfl j u hu
    have hgl := (own.lt g rfl).2
    have HCa := Lib.hid (fun (o : Obj) j u (hu : (cfgV C n)[j]? = some u) => ((World.cell?_alloc_lt w o ((⟨g, 0, none⟩ : Addr).add j) (by rw [Go.WideShapes.add_plain]; exact hgl)).trans (hca j u hu)))
    have HLen := Lib.hid hxl
    clear own hca hxl
    go_enter Tryz.func54, Tryz.ntmps54
    go_wp2_with (at_builtin; refine wpList_append_own _ rfl _ _ 80 rfl w.heap.size 76 i0 _ 5 48 info_cfgs hi hz0 hz1 hz2 rfl (by decide) _ _ _ rfl (World.ownsRow_made w #[] 0 (Nat.le_refl _) (Nat.zero_le _) rfl) ⟨g, 0, none⟩ n c (cfgV C n) rfl HLen.out (HCa.out _) (cfgV_one C n) (by unfold maxLen; omega) (by omega) (by simp) ?_)
    intro v1 w1 own1 gr1 _
    obtain ⟨A1, c1, rfl, q1, q2, q3⟩ := own_form own1
    have bel := ((Below.refl w.heap.size w).alloc (Nat.le_refl _) (.cells #[] 76)).grown gr1 (by simp) (fun g hg => by simp [Value.ownBlock] at hg; omega)
    have own2 : w1.ownsRow w.heap.size 76 5 (.slice A1 n c1) n (cfgV C n) := by simpa using own1
    have HO := Lib.hid own2
    clear own1 gr1 own2
    go_wp2_with fail
    go_ret
    exact ⟨A1, c1, by simp, HO.out, bel⟩

theorem wp_make_full {P : Program} {w : World} {o : Oper} {a : Act} {K : Act → World → Prop} {Q : Exit → Act → World → Prop} (l c : Operand) (t : TypeId) (hop : o.op = Op.makeSlice t l c)
    (base : Nat) (e : TypeId) (i : TypeInfo) (z : Value) (size : Nat) (h1 : P.underlying t = some (.slice e)) (h2 : P.info? e = some i) (h3 : i.zero = some z) (h4 : i.size = size)
    (n : Nat) (hl : a.eval l = .int .i64 (n : Int)) (hc : a.eval c = .int .i64 (n : Int)) (b2 : i.bytes * n ≤ 281474976710656) (b3 : n ≤ maxLen) (b4 : base ≤ w.heap.size)
    (hK : ∀ w', w'.ownsRow base e size (.slice (some ⟨w.heap.size, 0, none⟩) n n) n (madeCells z.cells (n * size)).toList → w.grownBy w' none → K (a.put o.dst (.slice (some ⟨w.heap.size, 0, none⟩) n n)) w') : o.wp P a w K Q := by
  obtain ⟨w', hrun, r1, r2⟩ := run_make_full (P := P) w base t e i z size h1 h2 h3 h4 .i64 .i64 n b2 b3 b4
  unfold Oper.wp
  simp [execOp, hop, hl, hc, hrun, Result.andThen]
  exact hK w' r1 r2
theorem grownN_below {w w' : World} (h : w.grownBy w' none) : Below w.heap.size w w' := ⟨h.os, h.tape, h.output, h.size, fun x hx => h.block x hx (by simp)⟩
theorem wpP_mem {C : Nat → Cfg} {j : Nat} {p : Peer} : ∀ {k}, p ∈ wpP C j k → ∃ i, i < k ∧ i ≠ j ∧ p.id = (C i).id
  | 0, h => by cases h
  | k + 1, h => by
    unfold wpP at h
    split at h
    · obtain ⟨i, h1, h2⟩ := wpP_mem h
      exact ⟨i, by omega, h2⟩
    · rename_i hk
      rcases addS_mem.1 h with rfl | h
      · exact ⟨k, by omega, hk, rfl⟩
      · obtain ⟨i, h1, h2⟩ := wpP_mem h
        exact ⟨i, by omega, h2⟩
theorem wpP_len {C : Nat → Cfg} {j : Nat} : ∀ k, (wpP C j k).length ≤ k
  | 0 => by simp [wpP]
  | k + 1 => by
    have ih := wpP_len (C := C) (j := j) k
    unfold wpP
    split
    · omega
    · rw [addS_len]; omega
theorem wpS_ok {C : Nat → Cfg} {n j : Nat} (hn : n ≤ 5) (hC : ∀ j, j < n → CfgOK (C j)) (hne : ∀ i j, i < n → j < n → (C i).id = (C j).id → i = j) (hj : j < n) : ∀ k, k ≤ n → NOK (wpS C j k) ∧ (k < n → has (wpP C j k) (C k).id = false)
  | 0, _ => by
    have c := hC j hj
    refine ⟨show NOK ⟨(C j).id, 0, (C j).every, (C j).cap, (C j).least, 0, 0, 0, [], []⟩ from NOK.new c.id (by omega) c.every c.cap c.least, fun _ => ?_⟩
    exact has_not (fun q hq => by cases hq)
  | k + 1, hk => by
    obtain ⟨ih, ih2⟩ := wpS_ok hn hC hne hj k (by omega)
    have h1 : NOK (wpS C j (k + 1)) := by
      by_cases e : k = j
      · have : wpS C j (k + 1) = wpS C j k := by
          show { cfS (C j) with peers := wpP C j (k + 1) } = { cfS (C j) with peers := wpP C j k }
          rw [wpP_succ, if_pos e]
        rw [this]; exact ih
      · have : wpS C j (k + 1) = { wpS C j k with peers := addS (newP (C k).id (wpS C j k).cap (C k).every (wpS C j k).now) (wpS C j k).peers } := by
          show { cfS (C j) with peers := wpP C j (k + 1) } = _
          rw [wpP_succ, if_neg e]
          rfl
        rw [this]
        have c := hC k (by omega)
        have hl := wpP_len (C := C) (j := j) k
        exact ih.add c.id (by have := c.every; omega) (ih2 (by omega)) (by show (wpP C j k).length < 6; omega)
    refine ⟨h1, fun h => ?_⟩
    cases hc : has (wpP C j (k + 1)) (C (k + 1)).id with
    | false => rfl
    | true =>
      obtain ⟨p, hp, e⟩ := (has_iff h1.tab.order _).1 hc
      obtain ⟨i, hi1, hi2, he⟩ := wpP_mem hp
      have := hne i (k + 1) (by omega) h (he.symm.trans e)
      omega
theorem stN_next (C : Nat → Cfg) (n i : Nat) : stN C n i n = stN C n (i + 1) 0 := by
  unfold stN
  congr 1
  funext j
  by_cases h1 : j < i
  · rw [if_pos h1, if_pos (by omega)]
  · rw [if_neg h1]
    by_cases h2 : j = i
    · rw [if_pos h2, if_pos (by omega)]
    · rw [if_neg h2, if_neg (by omega)]
      by_cases h3 : j = i + 1
      · rw [if_pos h3]
      · rw [if_neg h3]
theorem stN_same (C : Nat → Cfg) (n i : Nat) : stN C n i (i + 1) = stN C n i i := by
  unfold stN
  congr 1
  funext j
  by_cases h1 : j < i
  · rw [if_pos h1, if_pos h1]
  · rw [if_neg h1, if_neg h1]
    by_cases h2 : j = i
    · rw [if_pos h2, if_pos h2]
      subst h2
      show { cfS (C j) with peers := wpP C j (j + 1) } = { cfS (C j) with peers := wpP C j j }
      rw [wpP_succ, if_pos rfl]
    · rw [if_neg h2, if_neg h2]
theorem stN_set (C : Nat → Cfg) (n i k : Nat) : setN (stN C n i k) i (wpS C i (k + 1)) = stN C n i (k + 1) := by
  unfold stN setN
  congr 1
  funext j
  by_cases h2 : j = i
  · subst h2
    rw [if_pos rfl, if_neg (by omega), if_pos rfl]
  · rw [if_neg h2]
    show (if j < i then wpS C j n else if j = i then wpS C j k else wpS C j 0) = _
    by_cases h1 : j < i
    · rw [if_pos h1, if_pos h1]
    · rw [if_neg h1, if_neg h1, if_neg h2, if_neg h2]
theorem stN_at (C : Nat → Cfg) (n i k : Nat) : (stN C n i k).nd i = wpS C i k := by
  unfold stN
  show (if i < i then _ else if i = i then _ else _) = _
  rw [if_neg (by omega), if_pos rfl]
theorem str_lawB : Maps.Keyed Tryz.prog 9 := Maps.string_keyed Tryz.underlying9
open Classical in
noncomputable def colN (t ga gd gn n : Nat) (bs : Nat → Nat) (x : Nat) : Nat := if x = t then 0 else if x = ga then 1 else if x = gd then 3 else if x = gn then 2 else if h : ∃ j, j < n ∧ bs j = x then h.choose + 5 else 4
theorem made_get (n i : Nat) (hi : i < n) : (madeCells (Value.bool false).cells (n * 1)).toList[i]? = some (.bool false) := by
  simp [madeCells, Value.cells, hi, Nat.mod_one]
theorem town_set1 {w : World} {t : Nat} {v0 v1 v2 v3 : Value} {T : TypeId} (h : w.heap[t]? = some (.cells #[v0, v1, v2, v3] T (0, 0))) (v : Value) : (w.setCell ⟨t, 1, none⟩ v).heap[t]? = some (.cells #[v0, v, v2, v3] T (0, 0)) := by
  simp [World.setCell, Array.getElem?_modify, h]
theorem heap_alloc_new' (w : World) (o : Obj) : (w.alloc o).heap[w.heap.size]? = some o := by
  show (w.heap.push o)[w.heap.size]? = some o
  simp
set_option maxRecDepth 100000 in
set_option maxHeartbeats 16000000 in
theorem tnew_ok (n cl base : Nat) (A : Option Addr) (C : Nat → Cfg) (w : World) (own : w.ownsRow base 76 5 (.slice A n cl) n (cfgV C n)) (hn : 1 ≤ n ∧ n ≤ 5) (hC : ∀ j, j < n → CfgOK (C j)) (hne : ∀ i j, i < n → j < n → (C i).id = (C j).id → i = j) :
    Calls Tryz.prog 33 #[.slice A n cl] w fun e w' => ∃ t f, e = .returned (.tuple #[.pointer (some ⟨t, 0, none⟩), .int .i64 0]) ∧ TRep w' t (stN C n n 0) f ∧ (∀ x, f x → w.heap.size ≤ x) ∧ Below w.heap.size w w' := by
  have HC := Lib.hid (fun w' (o : w'.ownsRow base 76 5 (.slice A n cl) n (cfgV C n)) => cloneC_ok A n cl base C w' o (by omega))
  have HO := Lib.hid own
  obtain ⟨ib, hib, hb0, hb1', hb2⟩ := info_parts info_bool
  have hmm := @run_makeMap Tryz.prog
  obtain ⟨ip, hip, hp0, hp1, hp2⟩ := info_parts info_ptr
  have n5 : ¬ (5 : Int) < n := by omega
  clear own
  go_enter Tryz.func33, Tryz.ntmps33
  go_upto_region 3 with fail
  go_cut [4] (fun v wc => ∃ (t ga gd ca : Nat), v = .pointer (some ⟨t, 0, none⟩) ∧ wc.heap[t]? = some (.cells #[.slice (some ⟨ga, 0, none⟩) n ca, .slice none 0 0, .slice (some ⟨gd, 0, none⟩) n n, .slice none 0 0] 102 (0, 0)) ∧
    wc.ownsRow w.heap.size 76 5 (.slice (some ⟨ga, 0, none⟩) n ca) n (cfgV C n) ∧ wc.ownsRow w.heap.size 4 1 (.slice (some ⟨gd, 0, none⟩) n n) n (madeCells (Value.bool false).cells (n * 1)).toList ∧ ga ≠ gd ∧ ga ≠ t ∧ gd ≠ t ∧ w.heap.size ≤ t ∧ Below w.heap.size w wc)
  case first =>
    have kk : (fun _ : World => True) w.drew := trivial
    refine wp_region_M (fun _ => True) (fun _ => false) 8 rfl (by kernel_rfl) ?_
    (refine wpAnyM_take (i := 0) (v := ?_) rfl (by kernel_rfl) (by kernel_rfl) (by kernel_rfl) (by kernel_rfl) (fun _ _ _ h => h) (Or.inl ⟨by rfl, ?_⟩) kk ?_; (rotate_left; (intro w hSw; (try dsimp only at hSw); go_simp; try with_reducible rfl)); (try simp only [Act.put, List.setIfInBounds_toArray, List.set_cons_zero, List.set_cons_succ]))
    (refine wpAnyM_take (i := 2) (v := ?_) rfl (by kernel_rfl) (by kernel_rfl) (by kernel_rfl) (by kernel_rfl) (fun _ _ _ h => h) (Or.inl ⟨by rfl, ?_⟩) kk ?_; (rotate_left; (intro w hSw; (try dsimp only at hSw); go_simp; try with_reducible rfl)); (try simp only [Act.put, List.setIfInBounds_toArray, List.set_cons_zero, List.set_cons_succ]))
    (refine wpAnyM_take (i := 3) (v := ?_) rfl (by kernel_rfl) (by kernel_rfl) (by kernel_rfl) (by kernel_rfl) (fun _ _ _ h => h) (Or.inl ⟨by rfl, ?_⟩) kk ?_; (rotate_left; (intro w hSw; (try dsimp only at hSw); go_simp; try with_reducible rfl)); (try simp only [Act.put, List.setIfInBounds_toArray, List.set_cons_zero, List.set_cons_succ]))
    refine wpAnyM_two (i := 1) (j := 4) (by kernel_rfl) rfl rfl (fun K hK => ?_) (fun K hK => ?_)
    · go_simp
      refine (HC.out w.drew HO.out).mono ?_
      rintro e w1 ⟨A1, c1, rfl, own1, hb1⟩
      have hbw : Below w.heap.size w w1 := (Below.drew (Below.refl _ w)).trans hb1
      have z1 : w.heap.size ≤ w1.heap.size := hbw.size
      obtain ⟨g1, rfl⟩ : ∃ g, A1 = some ⟨g, 0, none⟩ := by obtain ⟨g, h, _⟩ := cfg_at own1 (show 0 < n by omega); exact ⟨g, h⟩
      have lg1 : g1 < w1.heap.size ∧ w.heap.size ≤ g1 := ⟨(own1.lt g1 rfl).2, (own1.lt g1 rfl).1⟩
      go_simp
      refine hK _ _ (fun _ => trivial) ?_
      clear hK K
      refine wpAnyM_one (i := 4) (by kernel_rfl) rfl (fun K hK => ?_)
      refine wp_make_full _ _ 100 rfl w.heap.size 4 ib (.bool false) 1 Tryz.underlying100 hib hb0 hb1' n (by simp [Act.eval, Act.put]) (by simp [Act.eval, Act.put]) (by rw [hb2]; omega) (by unfold maxLen; omega) z1 ?_
      intro w2 own2 gr2
      have hb2' := grownN_below gr2
      have z2 := hb2'.size
      have lg2 := (own2.lt _ rfl).2
      have O1 := own_below own1 hb2'
      refine hK _ _ (fun _ => trivial) ?_
      clear hK K
      have k2 : (fun _ : World => True) w2 := trivial
      (refine wpAnyM_take (i := 5) (v := ?_) rfl (by kernel_rfl) (by kernel_rfl) (by kernel_rfl) (by kernel_rfl) (fun _ _ _ h => h) (Or.inl ⟨by rfl, ?_⟩) k2 ?_; (rotate_left; (intro w hSw; (try dsimp only at hSw); go_simp; try with_reducible rfl)); (try simp only [Act.put, List.setIfInBounds_toArray, List.set_cons_zero, List.set_cons_succ]))
      refine wpAnyM_one (i := 6) (by kernel_rfl) rfl (fun K hK => ?_)
      go_simp
      refine hK _ _ (fun _ => trivial) ?_
      clear hK K
      have k3 : (fun _ : World => True) (w2.alloc (.cells #[.slice (some ⟨g1, 0, none⟩) n c1, .slice none 0 0, .slice (some ⟨w1.heap.size, 0, none⟩) n n, .slice none 0 0] 102)) := trivial
      (refine wpAnyM_take (i := 7) (v := ?_) rfl (by kernel_rfl) (by kernel_rfl) (by kernel_rfl) (by kernel_rfl) (fun _ _ _ h => h) (Or.inl ⟨by rfl, ?_⟩) k3 ?_; (rotate_left; (intro w hSw; (try dsimp only at hSw); go_simp; try with_reducible rfl)); (try simp only [Act.put, List.setIfInBounds_toArray, List.set_cons_zero, List.set_cons_succ]))
      refine wpAnyM_done (by kernel_rfl) ?_ _
      go_simp
      go_wp2_with fail
      go_meet
      case rel => exact ⟨w2.heap.size, g1, w1.heap.size, c1, rfl, heap_alloc_new' _ _, O1.alloc _, own2.alloc _, by omega, by omega, by omega, by omega, (hbw.trans (hb2'.mono z1)).alloc (by omega) _⟩
    · refine wp_make_full _ _ 100 rfl w.heap.size 4 ib (.bool false) 1 Tryz.underlying100 hib hb0 hb1' n (by simp [Act.eval, Act.put]) (by simp [Act.eval, Act.put]) (by rw [hb2]; omega) (by unfold maxLen; omega) (Nat.le_refl _) ?_
      intro w1 own1 gr1
      have hb1' := grownN_below gr1
      have hbw : Below w.heap.size w w1 := (Below.drew (Below.refl _ w)).trans hb1'
      have z1 : w.heap.size ≤ w1.heap.size := hbw.size
      have lg1 : w.heap.size < w1.heap.size := (own1.lt _ rfl).2
      refine hK _ _ (fun _ => trivial) ?_
      clear hK K
      refine wpAnyM_one (i := 1) (by kernel_rfl) rfl (fun K hK => ?_)
      go_simp
      refine (HC.out w1 (own_below HO.out hbw)).mono ?_
      rintro e w2 ⟨A2, c2, rfl, own2, hb2⟩
      have z2 := hb2.size
      obtain ⟨g2, rfl⟩ : ∃ g, A2 = some ⟨g, 0, none⟩ := by obtain ⟨g, h, _⟩ := cfg_at own2 (show 0 < n by omega); exact ⟨g, h⟩
      have lg2 : g2 < w2.heap.size ∧ w1.heap.size ≤ g2 := ⟨(own2.lt g2 rfl).2, (own2.lt g2 rfl).1⟩
      have O1 := own_below own1 hb2
      have O2 := own_mono own2 z1
      go_simp
      refine hK _ _ (fun _ => trivial) ?_
      clear hK K
      have k2 : (fun _ : World => True) w2 := trivial
      (refine wpAnyM_take (i := 5) (v := ?_) rfl (by kernel_rfl) (by kernel_rfl) (by kernel_rfl) (by kernel_rfl) (fun _ _ _ h => h) (Or.inl ⟨by rfl, ?_⟩) k2 ?_; (rotate_left; (intro w hSw; (try dsimp only at hSw); go_simp; try with_reducible rfl)); (try simp only [Act.put, List.setIfInBounds_toArray, List.set_cons_zero, List.set_cons_succ]))
      refine wpAnyM_one (i := 6) (by kernel_rfl) rfl (fun K hK => ?_)
      go_simp
      refine hK _ _ (fun _ => trivial) ?_
      clear hK K
      have k3 : (fun _ : World => True) (w2.alloc (.cells #[.slice (some ⟨g2, 0, none⟩) n c2, .slice none 0 0, .slice (some ⟨w.heap.size, 0, none⟩) n n, .slice none 0 0] 102)) := trivial
      (refine wpAnyM_take (i := 7) (v := ?_) rfl (by kernel_rfl) (by kernel_rfl) (by kernel_rfl) (by kernel_rfl) (fun _ _ _ h => h) (Or.inl ⟨by rfl, ?_⟩) k3 ?_; (rotate_left; (intro w hSw; (try dsimp only at hSw); go_simp; try with_reducible rfl)); (try simp only [Act.put, List.setIfInBounds_toArray, List.set_cons_zero, List.set_cons_succ]))
      refine wpAnyM_done (by kernel_rfl) ?_ _
      go_simp
      go_wp2_with fail
      go_meet
      case rel => exact ⟨w2.heap.size, g2, w.heap.size, c2, rfl, heap_alloc_new' _ _, O2.alloc _, O1.alloc _, by omega, by omega, by omega, by omega, (hbw.trans (hb2.mono z1)).alloc (by omega) _⟩
  case rest =>
    obtain ⟨t, ga, gd, ca, rfl, ht, ho1, ho2, ne1, ne2, ne3, htw, bel⟩ := hcut
    have tl : t < wc.heap.size := (Array.getElem?_eq_some_iff.1 ht).1
    have gal := ho1.lt ga rfl
    have gdl := ho2.lt gd rfl
    have ab : Below wc.heap.size wc (wc.alloc (.map #[] 0)) := (Below.refl _ _).alloc (Nat.le_refl _) _
    have M0 := Lib.hid (MapB.made 9 wc)
    have T5 := Lib.hid ((ab.block t tl).trans ht)
    have OA := Lib.hid (own_below ho1 ab)
    have OD := Lib.hid (own_below ho2 ab)
    have B5 := Lib.hid (bel.trans (ab.mono bel.size))
    obtain ⟨B, hB⟩ : ∃ B, wc.heap.size = B := ⟨_, rfl⟩
    have hBw : w.heap.size ≤ B := by rw [← hB]; exact bel.size
    have z5 : (wc.alloc (.map #[] 0)).heap.size = B + 1 := by simp [hB]
    rw [hB] at M0 tl gal gdl
    clear ht ho1 ho2 bel ab
    go_wp2_with fail
    clear hB
    generalize wc.alloc (.map #[] 0) = w5 at M0 T5 OA OD B5 z5 ⊢
    have z5' : w.heap.size ≤ w5.heap.size ∧ t < w5.heap.size ∧ B < w5.heap.size := by omega
    have tB : t ≠ B := by omega
    clear z5
    go_loopw [27] (fun i wr => ∃ (k m : Nat) (nv : Value) (bs : Nat → Nat) (F : Value → Bool), k ≤ n ∧ i = .int .i64 k ∧ wr.heap[t]? = some (.cells #[.slice (some ⟨ga, 0, none⟩) n ca, nv, .slice (some ⟨gd, 0, none⟩) n n, .slice none 0 0] 102 (0, 0)) ∧
      wr.ownsRow w.heap.size 37 1 nv k ((List.range k).map fun j => .pointer (some ⟨bs j, 0, none⟩)) ∧ (∀ j, j < k → NodeAt wr (bs j) (C j).id 0 (C j).every (C j).cap (C j).least 0 0 0 (.slice none 0 0) (.slice none 0 0) ∧ w5.heap.size ≤ bs j) ∧ (∀ i j, i < k → j < k → bs i = bs j → i = j) ∧
      MapB 9 wr B m F ∧ m ≤ k ∧ (∀ i, k ≤ i → i < n → F (.string (C i).id) = false) ∧ (∀ q, nv.ownBlock = some q → w5.heap.size ≤ q ∧ ∀ j, j < k → bs j ≠ q) ∧ Kept (fun x => x = t ∨ x = B) w5 wr) (fun i _ => n - (intOf i).toNat)
    case atStart => exact ⟨0, 0, .slice none 0 0, fun _ => 0, _, Nat.zero_le _, rfl, T5.out, World.ownsRow_nil _ _ _ _, fun j hj => absurd hj (by omega), fun i j hi => absurd hi (by omega), M0.out, Nat.le_refl _, fun _ _ _ => rfl, fun q hq => by simp [Value.ownBlock] at hq, Kept.refl _ _⟩
    case round =>
      obtain ⟨k, m, nv, bs, F, hk, rfl, ht, hown, hnd, hinj, hM, hm, hF, hnv, hkept⟩ := hrel
      have sz0 := hkept.size
      by_cases hlt : k < n
      · obtain ⟨gl, rfl, gll, _, hcf⟩ := cfg_at HO.out hlt
        have hcell : ∀ i, i < 5 → wr.cell? ⟨gl, k * 5 + i, none⟩ = (cfC (C k))[i]? := fun i hi => by
          rw [← hcf i hi, World.cell?_of_block (a := ⟨gl, k * 5 + i, none⟩) (hkept.block gl (by omega) (fun h => by omega)), World.cell?_of_block (a := ⟨gl, k * 5 + i, none⟩) (B5.out.block gl gll)]
        have ok := hC k hlt
        obtain ⟨cf, hcfe⟩ : ∃ c, C k = c := ⟨_, rfl⟩
        rw [hcfe] at hcell ok
        have HNew := Lib.hid (fun w' => new_ok cf.id 0 cf.every cf.cap cf.least w' ok.id (by omega) ok.every ok.cap ok.least)
        have hFk := hF k (Nat.le_refl _) hlt
        rw [hcfe] at hFk
        have hidz : cf.id.size ≤ maxLen := by have := ok.id.2.1; rw [byts_len] at this; unfold maxLen; omega
        obtain ⟨lk, hlk⟩ : ∃ l, keyOf Tryz.prog 9 (.string cf.id) = some l := ⟨_, Go.WideMaps.keyOf_string_mk Tryz.underlying9 hidz⟩
        obtain ⟨q0, h0⟩ : ∃ x, cf.id = x := ⟨_, rfl⟩
        obtain ⟨q2, h2⟩ : ∃ x, cf.every = x := ⟨_, rfl⟩
        obtain ⟨q3, h3⟩ : ∃ x, cf.cap = x := ⟨_, rfl⟩
        obtain ⟨q4, h4⟩ : ∃ x, cf.least = x := ⟨_, rfl⟩
        have c0 : wr.cell? ⟨gl, k * 5, none⟩ = some (.string q0) := by rw [← h0]; exact hcell 0 (by omega)
        have c1 : wr.cell? ⟨gl, k * 5 + 1, none⟩ = some (.int .i64 0) := hcell 1 (by omega)
        have c2 : wr.cell? ⟨gl, k * 5 + 2, none⟩ = some (.int .i64 q2) := by rw [← h2]; exact hcell 2 (by omega)
        have c3 : wr.cell? ⟨gl, k * 5 + 3, none⟩ = some (.int .i64 q3) := by rw [← h3]; exact hcell 3 (by omega)
        have c4 : wr.cell? ⟨gl, k * 5 + 4, none⟩ = some (.int .i64 q4) := by rw [← h4]; exact hcell 4 (by omega)
        rw [h0, h2, h3, h4] at HNew
        rw [h0] at hlk hFk
        have kw : IntKind.i64.wrap ((k : Int) + 1) = (k : Int) + 1 := IntWalk.i64_in _ (by omega)
        have hkn : (k : Int) < n := by omega
        have HQ := Lib.hid (And.intro hcfe (And.intro h0 (And.intro h2 (And.intro h3 h4))))
        have HT := Lib.hid ht
        have HOw := Lib.hid hown
        have HNd := Lib.hid hnd
        have HInj := Lib.hid hinj
        have HM := Lib.hid hM
        have HF := Lib.hid hF
        have HNv := Lib.hid hnv
        have HK := Lib.hid hkept
        have HLk := Lib.hid (And.intro hlk hFk)
        have qa := alloc_cells
        have qf := alloc_frozens
        clear hcf hcell ok hcfe h0 h2 h3 h4 ht hown hnd hinj hM hF hnv hkept hlk hFk hidz
        go_upto_region 8 with fail
        have ab : Below wr.heap.size wr (wr.alloc (.cells #[.string q0, .int .i64 0, .int .i64 q2, .int .i64 q3, .int .i64 q4] 76)) := (Below.refl _ _).alloc (Nat.le_refl _) _
        have x0 : (wr.alloc (.cells #[.string q0, .int .i64 0, .int .i64 q2, .int .i64 q3, .int .i64 q4] 76)).cell? ⟨wr.heap.size, 0, none⟩ = some (.string q0) := by simp [qa]
        have x1 : (wr.alloc (.cells #[.string q0, .int .i64 0, .int .i64 q2, .int .i64 q3, .int .i64 q4] 76)).cell? ⟨wr.heap.size, 1, none⟩ = some (.int .i64 0) := by simp [qa]
        have x2 : (wr.alloc (.cells #[.string q0, .int .i64 0, .int .i64 q2, .int .i64 q3, .int .i64 q4] 76)).cell? ⟨wr.heap.size, 2, none⟩ = some (.int .i64 q2) := by simp [qa]
        have x3 : (wr.alloc (.cells #[.string q0, .int .i64 0, .int .i64 q2, .int .i64 q3, .int .i64 q4] 76)).cell? ⟨wr.heap.size, 3, none⟩ = some (.int .i64 q3) := by simp [qa]
        have x4 : (wr.alloc (.cells #[.string q0, .int .i64 0, .int .i64 q2, .int .i64 q3, .int .i64 q4] 76)).cell? ⟨wr.heap.size, 4, none⟩ = some (.int .i64 q4) := by simp [qa]
        have zx : wr.heap.size < (wr.alloc (.cells #[.string q0, .int .i64 0, .int .i64 q2, .int .i64 q3, .int .i64 q4] 76)).heap.size := by simp
        have AB := Lib.hid ab
        generalize wr.alloc (.cells #[.string q0, .int .i64 0, .int .i64 q2, .int .i64 q3, .int .i64 q4] 76) = w6 at AB x0 x1 x2 x3 x4 zx ⊢
        obtain ⟨bx, hbx⟩ : ∃ x, wr.heap.size = x := ⟨_, rfl⟩
        have HBx := Lib.hid hbx
        rw [hbx] at x0 x1 x2 x3 x4 zx ⊢
        clear ab hbx c0 c1 c2 c3 c4
        go_wp2_with fail
        refine (HNew.out w6).mono ?_
        rintro e w7 ⟨b, rfl, bb, nd7, hb7⟩
        have x7 := (hb7.cell (p := ⟨bx, 0, none⟩) zx).trans x0
        have z7 := hb7.size
        have ab7 := AB.out.trans (hb7.mono AB.out.size)
        have AB7 := Lib.hid ab7
        have M7 := Lib.hid (HM.out.same (ab7.block B (by omega)))
        have hrun := M7.out.look Go.Proofs.YtpomdnglknbanaaGreat.str_lawB Tryz.underlying117 HLk.out.1
        rw [HLk.out.2] at hrun
        have HNd7 := Lib.hid nd7
        have bl7 := nd7.lt
        clear x0 x1 x2 x3 x4 nd7 hb7 ab7
        go_wp2_with (at_mapUpdate; refine wpList_mapB rfl _ _ _ rfl rfl M7.out Go.Proofs.YtpomdnglknbanaaGreat.str_lawB Tryz.underlying117 (by unfold maxLen; omega) (.string q0) true rfl rfl HLk.out.1 ?_)
        intro w8 F8 hs8 hf8 hM8 hg8
        have z8 := hg8.size
        have HM8 := Lib.hid hM8
        have HF8 := Lib.hid (And.intro hs8 hf8)
        have HG8 := Lib.hid hg8
        have tcell : w8.heap[t]? = some (.cells #[.slice (some ⟨ga, 0, none⟩) n ca, nv, .slice (some ⟨gd, 0, none⟩) n n, .slice none 0 0] 102 (0, 0)) := (hg8.block t (by have := AB7.out.size; omega) (fun e => tB (by simpa using e))).trans ((AB7.out.block t (by omega)).trans HT.out)
        have t1 : w8.cell? ⟨t, 1, none⟩ = some nv := by rw [cell_of_row _ _ _ _ _ _ tcell]; rfl
        have tf : ∀ o, w8.frozen? ⟨t, o, none⟩ = false := (block_cells tcell).2
        have TC := Lib.hid tcell
        have nvB : ∀ q, nv.ownBlock = some q → q ≠ B ∧ q ≠ t := fun q hq => by have := (HNv.out q hq).1; omega
        have O8 := Lib.hid (own_same (f := fun x => x ≠ B) (own_below HOw.out AB7.out) (fun q hq => (nvB q hq).1) ⟨z8, fun x hx hne => HG8.out.block x hx (fun e => hne (by simpa using e))⟩)
        have zz : wr.heap.size ≤ w8.heap.size := by have := AB7.out.size; omega
        clear hs8 hf8 hM8 hg8 hrun x7 tcell
        go_wp2_with (at_builtin; refine wpList_append_own_at _ rfl _ _ 99 rfl w.heap.size 37 ip (.pointer none) 1 8 Tryz.underlying99 hip hp0 hp1 hp2 rfl (by decide) _ k _ rfl (O8.out.alloc _) ⟨w8.heap.size, 0, none⟩ 1 1 [.pointer (some ⟨b, 0, none⟩)] rfl rfl (cell_one_new _ _ _) (by intro u hu; simp at hu; subst hu; rfl) (by unfold maxLen; omega) (by omega) (by simp; omega) ?_)
        intro v9 w9 own9 gr9 hxx loc9
        clear hxx
        obtain ⟨A9, c9, rfl, _, _, _⟩ := own_form own9
        have z9 := gr9.size
        simp only [World.size_alloc] at z9
        have oth : ∀ x, x < w8.heap.size → some x ≠ nv.ownBlock → w9.heap[x]? = w8.heap[x]? := fun x hx hne => (gr9.block x (by simp; omega) hne).trans (Below.heap_alloc w8 _ x hx)
        have tno : some t ≠ nv.ownBlock := fun e => (nvB t e.symm).2 rfl
        have e9 : w9.heap[t]? = some (.cells #[.slice (some ⟨ga, 0, none⟩) n ca, nv, .slice (some ⟨gd, 0, none⟩) n n, .slice none 0 0] 102 (0, 0)) := (oth t (by omega) tno).trans TC.out
        have y1 : w9.cell? ⟨t, 1, none⟩ = some nv := by rw [cell_of_row _ _ _ _ _ _ e9]; rfl
        have yf : ∀ o, w9.frozen? ⟨t, o, none⟩ = false := (block_cells e9).2
        have HO9 := Lib.hid own9
        have HL9 := Lib.hid loc9
        have HOth := Lib.hid oth
        have HE9 := Lib.hid e9
        have HG9 := Lib.hid gr9
        clear own9 loc9 oth e9 gr9
        go_wp2_with fail
        have hno9 : ∀ q, (Value.slice A9 (k + 1) c9).ownBlock = some q → w5.heap.size ≤ q ∧ (nv.ownBlock = some q ∨ w8.heap.size < q) ∧ q < w9.heap.size := fun q hq => by
          have lt9 := (HO9.out.lt q hq).2
          rcases HL9.out with h | h
          · rw [hq] at h
            exact ⟨(HNv.out q h.symm).1, .inl h.symm, lt9⟩
          · rw [hq] at h
            simp only [Option.some.injEq, World.size_alloc] at h
            exact ⟨by omega, .inr (by omega), lt9⟩
        have t9 : ∀ q, (Value.slice A9 (k + 1) c9).ownBlock = some q → q ≠ t := fun q hq => by have := (hno9 q hq).1; omega
        have keep : ∀ x, x < w8.heap.size → some x ≠ nv.ownBlock → x ≠ t → (w9.setCell ⟨t, 1, none⟩ (.slice A9 (k + 1) c9)).heap[x]? = w8.heap[x]? := fun x hx h1 h2 => (Below.heap_setCell _ _ _ _ (fun e => h2 e)).trans (HOth.out x hx h1)
        have keepr : ∀ x, x < wr.heap.size → some x ≠ nv.ownBlock → x ≠ t → x ≠ B → (w9.setCell ⟨t, 1, none⟩ (.slice A9 (k + 1) c9)).heap[x]? = wr.heap[x]? := fun x hx h1 h2 h3 => (keep x (by omega) h1 h2).trans ((HG8.out.block x (by have := AB7.out.size; omega) (fun e => h3 (by simpa using e))).trans (AB7.out.block x hx))
        have bbr : wr.heap.size ≤ b := by have := HBx.out; omega
        have hnvlt : ∀ q, nv.ownBlock = some q → q < wr.heap.size := fun q hq => (HOw.out.lt q hq).2
        have ndk : NodeAt (w9.setCell ⟨t, 1, none⟩ (.slice A9 (k + 1) c9)) b (C k).id 0 (C k).every (C k).cap (C k).least 0 0 0 (.slice none 0 0) (.slice none 0 0) := by
          have hq := HQ.out
          rw [hq.1, hq.2.1, hq.2.2.1, hq.2.2.2.1, hq.2.2.2.2]
          exact HNd7.out.same ((keep b (by omega) (fun e => by have := hnvlt b e.symm; omega) (by omega)).trans (HG8.out.block b bl7 (fun e => by simp only [Option.some.injEq] at e; omega)))
        go_roundw
        case rel =>
          refine ⟨k + 1, m + 1, .slice A9 (k + 1) c9, fun j => if j = k then b else bs j, F8, by omega, by go_num, town_set1 HE9.out _, ?_, fun j hj => ?_, fun i j hi hj he => ?_, HM8.out.same (keep B (by omega) (fun e => (nvB B e.symm).1 rfl) (fun e => tB e.symm)), by omega, fun i hi1 hi2 => ?_, fun q hq => ?_, ?_⟩
          · have h9 := HO9.out
            have e1 : ((List.range (k + 1)).map fun j => Value.pointer (some ⟨if j = k then b else bs j, 0, none⟩)) = ((List.range k).map fun j => Value.pointer (some ⟨bs j, 0, none⟩)) ++ [.pointer (some ⟨b, 0, none⟩)] := by
              rw [List.range_succ, List.map_append]
              congr 1
              · apply List.map_congr_left
                intro j hj
                have := List.mem_range.1 hj
                rw [if_neg (by omega)]
              · simp
            rw [e1]
            exact own_elsewhere h9 (fun e => t9 t e rfl) _ _
          · by_cases e : j = k
            · subst e
              dsimp only
              rw [if_pos rfl]
              exact ⟨ndk, by omega⟩
            · dsimp only
              rw [if_neg e]
              obtain ⟨h1, h2⟩ := HNd.out j (by omega)
              have hl := h1.lt
              exact ⟨h1.same (keepr (bs j) hl (fun e => (HNv.out (bs j) e.symm).2 j (by omega) rfl) (by omega) (by omega)), h2⟩
          · dsimp only at he
            by_cases e1 : i = k
            · by_cases e2 : j = k
              · omega
              · rw [if_pos e1, if_neg e2] at he
                have := (HNd.out j (by omega)).1.lt
                omega
            · by_cases e2 : j = k
              · rw [if_neg e1, if_pos e2] at he
                have := (HNd.out i (by omega)).1.lt
                omega
              · rw [if_neg e1, if_neg e2] at he
                exact HInj.out i j (by omega) (by omega) he
          · rw [HF8.out.2 _ (fun e => by
              have e' : (C i).id = q0 := by simpa using e
              have h1 := HQ.out
              have := hne i k hi2 hlt (by rw [e', h1.1, h1.2.1])
              omega)]
            exact HF.out i (by omega) hi2
          · obtain ⟨h1, h2, h3⟩ := hno9 q hq
            refine ⟨h1, fun j hj => ?_⟩
            dsimp only
            by_cases e : j = k
            · rw [if_pos e]
              rcases h2 with h2 | h2
              · have := hnvlt q h2; omega
              · omega
            · rw [if_neg e]
              have hl := (HNd.out j (by omega)).1.lt
              rcases h2 with h2 | h2
              · exact (HNv.out q h2).2 j (by omega)
              · omega
          · have hk := HK.out
            refine ⟨HG9.out.os.trans (HG8.out.os.trans (AB7.out.os.trans hk.os)), HG9.out.tape.trans (HG8.out.tape.trans (AB7.out.tape.trans hk.tape)), HG9.out.output.trans (HG8.out.output.trans (AB7.out.output.trans hk.output)), by simp only [World.size_setCell]; omega, fun x hx hfx => ?_⟩
            exact (keepr x (by omega) (fun e => by have := (HNv.out x e.symm).1; omega) (fun e => hfx (.inl e)) (fun e => hfx (.inr e))).trans (hk.block x hx hfx)
        case measure => simp [intOf]; omega
      · obtain rfl : n = k := by omega
        obtain ⟨An, cn, rfl, hcn, _, hnil⟩ := own_form hown
        obtain ⟨gn, rfl⟩ : ∃ g, An = some ⟨g, 0, none⟩ := by
          rcases hown.2 with ⟨_, h⟩ | ⟨g, c', cur, he, _⟩
          · omega
          · simp only [Value.slice.injEq] at he
            exact ⟨g, he.1⟩
        have gnl := hown.lt gn rfl
        have hnq := hnv gn rfl
        obtain ⟨Ax, cx, e1, hca, _, _⟩ := own_form OA.out
        simp only [Value.slice.injEq, true_and] at e1
        rw [← e1.2] at hca
        have gab : ga < w5.heap.size := (OA.out.lt ga rfl).2
        have gdb : gd < w5.heap.size := (OD.out.lt gd rfl).2
        have T0 : TRepC wr t (stN C n 0 0) (fun x => w.heap.size ≤ x ∧ x < wr.heap.size) (colN t ga gd gn n bs) ga gn gd ca cn n (.slice none 0 0) bs := by
          have nd0 : ∀ i, (stN C n 0 0).nd i = cfS (C i) := fun i => by
            show (if i < 0 then wpS C i n else if i = 0 then wpS C i 0 else wpS C i 0) = _
            rw [if_neg (by omega)]
            split <;> rfl
          have colB : ∀ i, i < n → colN t ga gd gn n bs (bs i) = i + 5 := fun i hi => by
            have h1 := (hnd i hi).2
            have h2 := hnq.2 i hi
            unfold colN
            rw [if_neg (by omega), if_neg (by omega), if_neg (by omega), if_neg h2]
            have hex : ∃ j, j < n ∧ bs j = bs i := ⟨i, hi, rfl⟩
            rw [dif_pos hex]
            have := hinj _ i hex.choose_spec.1 hi hex.choose_spec.2
            omega
          have kb : ∀ x, x < w5.heap.size → x ≠ t → x ≠ B → wr.heap[x]? = w5.heap[x]? := fun x hx h1 h2 => hkept.block x hx (fun h => h.elim h1 h2)
          have kga := kb ga gab (by omega) (by omega)
          have kgd := kb gd gdb (by omega) (by omega)
          have tw : t < wr.heap.size := (Array.getElem?_eq_some_iff.1 ht).1
          refine ⟨ht, fun i hi => ?_, fun i hi => ?_, fun i hi => ?_, fun o => ?_, World.ownsRow_nil _ _ _ _, fun i hi => ?_, ⟨⟨htw, tw⟩, ⟨by omega, by omega⟩, ⟨gnl.1, gnl.2⟩, ⟨by omega, by omega⟩⟩, ⟨?_, ?_, ?_, ?_⟩, fun q hq => by simp [Value.ownBlock] at hq, fun x hx => hx.2, hca, hcn, Nat.le_refl _⟩
          · rw [nd0]
            obtain ⟨g, hA, _, _, hc⟩ := cfg_at OA.out (show i < n from hi)
            simp only [Option.some.injEq, Addr.mk.injEq, and_true] at hA
            subst hA
            exact (World.cell?_of_block (a := ⟨ga, i * 5 + 2, none⟩) kga).trans (hc 2 (by omega))
          · have := hown.cells (g := gn) rfl i (.pointer (some ⟨bs i, 0, none⟩)) (by rw [List.getElem?_map, List.getElem?_range (show i < n from hi)]; rfl)
            rw [Go.WideShapes.add_plain, Nat.zero_add] at this
            exact this
          · have := OD.out.cells (g := gd) rfl i (.bool false) (made_get n i hi)
            rw [Go.WideShapes.add_plain, Nat.zero_add] at this
            exact (World.cell?_of_block (a := ⟨gd, i, none⟩) kgd).trans this
          · rcases OD.out.2 with ⟨_, h⟩ | ⟨g', c', cur, he, _, hg, _⟩
            · omega
            · simp only [Value.slice.injEq, Option.some.injEq, Addr.mk.injEq, and_true, true_and] at he
              obtain ⟨rfl, _⟩ := he
              exact (World.frozen?_of_block kgd).trans ((block_cells hg).2 o)
          · rw [nd0]
            refine (NRep.new (hnd i hi).1).imp (fun x hx => ?_) (fun x hx => hx.1.2)
            have hx' : x = bs i := hx
            rw [hx']
            exact ⟨⟨by have := (hnd i hi).2; omega, (hnd i hi).1.lt⟩, colB i hi⟩
          · unfold colN; rw [if_pos rfl]
          · unfold colN; rw [if_neg (by omega), if_pos rfl]
          · have := hnq.1; unfold colN; rw [if_neg (by omega), if_neg (by omega), if_neg (by omega), if_pos rfl]
          · unfold colN; rw [if_neg (by omega), if_neg (by omega), if_pos rfl]
        have HT0 := Lib.hid T0
        have BW : Below w.heap.size w wr := B5.out.trans (hkept.below (B5.out.size) (fun x hx => by rcases hx with rfl | rfl <;> omega))
        have HBW := Lib.hid BW
        have t1 : wr.cell? ⟨t, 1, none⟩ = some (.slice (some ⟨gn, 0, none⟩) n cn) := by rw [cell_of_row _ _ _ _ _ _ ht]; rfl
        clear T0 BW ht hown hnd hinj hM hF hnv hkept
        go_wp2_with fail
        go_loopw [62] (fun v wx => ∃ (i : Nat) (f' : Nat → Prop) (cl : Nat → Nat), i ≤ n ∧ v = .int .i64 i ∧ TRepC wx t (stN C n i 0) f' cl ga gn gd ca cn n (.slice none 0 0) bs ∧ (∀ x, f' x → w.heap.size ≤ x) ∧ Below w.heap.size w wx) (fun v _ => n - (intOf v).toNat)
        case atStart => exact ⟨0, _, _, Nat.zero_le _, rfl, HT0.out, fun x hx => hx.1, HBW.out⟩
        case round =>
          obtain ⟨wx, rfl⟩ : ∃ z : World, z = wr := ⟨_, rfl⟩
          obtain ⟨i, f', cl', hi, rfl, hT, hf', bel⟩ := hrel
          have szx := bel.size
          by_cases hin : i < n
          · obtain ⟨_, p1, _, _, _, nl2, _, _⟩ := hT.parts (S := stN C n i 0) (i := i) hin
            have iw : IntKind.i64.wrap ((i : Int) + 1) = (i : Int) + 1 := IntWalk.i64_in _ (by omega)
            have hin' : (i : Int) < n := by omega
            have HT := Lib.hid hT
            have HFx := Lib.hid hf'
            have HBx := Lib.hid bel
            clear hT hf' bel
            go_wp2_with fail
            go_loopw [69] (fun v wy => ∃ (k : Nat) (f' : Nat → Prop) (cl : Nat → Nat), k ≤ n ∧ v = .int .i64 k ∧ TRepC wy t (stN C n i k) f' cl ga gn gd ca cn n (.slice none 0 0) bs ∧ (∀ x, f' x → w.heap.size ≤ x) ∧ Below w.heap.size w wy) (fun v _ => n - (intOf v).toNat)
            case atStart => exact ⟨0, f', cl', Nat.zero_le _, rfl, HT.out, HFx.out, HBx.out⟩
            case round =>
              obtain ⟨wy, rfl⟩ : ∃ z : World, z = wr := ⟨_, rfl⟩
              obtain ⟨k, f2, cl2, hk2, rfl, hT, hf2, bely⟩ := hrel
              have szy := bely.size
              by_cases hkn : k < n
              · obtain ⟨gl, rfl, gll, _, hcf⟩ := cfg_at HO.out hkn
                have hcell : ∀ j, j < 5 → wy.cell? ⟨gl, k * 5 + j, none⟩ = (cfC (C k))[j]? := fun j hj => by
                  rw [← hcf j hj]; exact bely.cell (p := ⟨gl, k * 5 + j, none⟩) gll
                obtain ⟨cf, hcfe⟩ : ∃ c, C k = c := ⟨_, rfl⟩
                rw [hcfe] at hcell
                have okc := hC k hkn
                rw [hcfe] at okc
                obtain ⟨q0, h0⟩ : ∃ x, cf.id = x := ⟨_, rfl⟩
                obtain ⟨q2, h2⟩ : ∃ x, cf.every = x := ⟨_, rfl⟩
                have c0 : wy.cell? ⟨gl, k * 5, none⟩ = some (.string q0) := by rw [← h0]; exact hcell 0 (by omega)
                have c1 : wy.cell? ⟨gl, k * 5 + 1, none⟩ = some (.int .i64 0) := hcell 1 (by omega)
                have c2 : wy.cell? ⟨gl, k * 5 + 2, none⟩ = some (.int .i64 q2) := by rw [← h2]; exact hcell 2 (by omega)
                have c3 : wy.cell? ⟨gl, k * 5 + 3, none⟩ = some (.int .i64 cf.cap) := hcell 3 (by omega)
                have c4 : wy.cell? ⟨gl, k * 5 + 4, none⟩ = some (.int .i64 cf.least) := hcell 4 (by omega)
                obtain ⟨q3, h3⟩ : ∃ x, cf.cap = x := ⟨_, rfl⟩
                obtain ⟨q4, h4⟩ : ∃ x, cf.least = x := ⟨_, rfl⟩
                rw [h3] at c3
                rw [h4] at c4
                have kw : IntKind.i64.wrap ((k : Int) + 1) = (k : Int) + 1 := IntWalk.i64_in _ (by omega)
                have hknI : (k : Int) < n := by omega
                have ab : Below wy.heap.size wy (wy.alloc (.cells #[.string q0, .int .i64 0, .int .i64 q2, .int .i64 q3, .int .i64 q4] 76)) := (Below.refl _ _).alloc (Nat.le_refl _) _
                have x0 : (wy.alloc (.cells #[.string q0, .int .i64 0, .int .i64 q2, .int .i64 q3, .int .i64 q4] 76)).cell? ⟨wy.heap.size, 0, none⟩ = some (.string q0) := by simp [alloc_cells]
                have x2 : (wy.alloc (.cells #[.string q0, .int .i64 0, .int .i64 q2, .int .i64 q3, .int .i64 q4] 76)).cell? ⟨wy.heap.size, 2, none⟩ = some (.int .i64 q2) := by simp [alloc_cells]
                have T6 := Lib.hid (hT.below ab)
                have B6 := Lib.hid (bely.trans (ab.mono szy))
                have HF2 := Lib.hid hf2
                obtain ⟨wok, whas⟩ := wpS_ok hn.2 hC hne hin k (by omega)
                have whas' := whas hkn
                have wlen := wpP_len (C := C) (j := i) k
                have HQ := Lib.hid (And.intro hcfe (And.intro h0 h2))
                have OKC := Lib.hid okc
                have WOK := Lib.hid (And.intro wok (And.intro whas' wlen))
                have qa := alloc_cells
                have qf := alloc_frozens
                clear hcf hcell hcfe okc h0 h2 h3 h4 hT hf2 bely ab wok whas whas' wlen
                go_upto_region 22 with fail
                generalize wy.alloc (.cells #[.string q0, .int .i64 0, .int .i64 q2, .int .i64 q3, .int .i64 q4] 76) = w7 at x0 x2 T6 B6 ⊢
                by_cases hki : k = i
                · subst hki
                  clear c0 c1 c2 c3 c4
                  go_wp2_with fail
                  go_roundw
                  case rel => exact ⟨k + 1, f2, cl2, by omega, by go_num, by rw [stN_same]; exact T6.out, HF2.out, B6.out⟩
                  case measure => simp [intOf]; omega
                · have hki' : ((k : Int) != (i : Int)) = true := by simp; omega
                  obtain ⟨_, _, _, nr, _⟩ := T6.out.parts (S := stN C n i k) (i := i) hin
                  rw [stN_at] at nr
                  have HWt := Lib.hid (nwatch_ok (bs i) (wpS C i k) _ q0 q2 w7 nr WOK.out.1 (fun e => hki (hne k i hkn hin (by rw [HQ.out.1, HQ.out.2.1]; exact e))) (by rw [← HQ.out.2.1]; exact OKC.out.id) (by have := OKC.out.every; rw [HQ.out.2.2] at this; omega) (by have := WOK.out.2.1; rw [HQ.out.1, HQ.out.2.1] at this; exact this) (by have := WOK.out.2.2; show (wpP C i k).length < 6; omega))
                  clear c0 c1 c2 c3 c4 nr
                  go_wp2_with fail
                  refine HWt.out.mono ?_
                  rintro e w8 ⟨rfl, ⟨m8, rep8⟩, k8⟩
                  have es : ({ wpS C i k with peers := addS (newP q0 (wpS C i k).cap q2 (wpS C i k).now) (wpS C i k).peers } : NSt) = wpS C i (k + 1) := by
                    show _ = { cfS (C i) with peers := wpP C i (k + 1) }
                    rw [wpP_succ, if_neg hki, HQ.out.1, HQ.out.2.1, HQ.out.2.2]
                    rfl
                  rw [es] at rep8
                  have rl := rep8.lt
                  have N8 := T6.out.node (S := stN C n i k) (M := w8.heap.size) hin rep8 ⟨k8.size, Nat.le_refl _⟩ (fun x hx => hx.imp (fun h => h) (fun h => ⟨h.1, rl x (.inr h)⟩)) k8 (by rw [stN_at]; rfl)
                  rw [stN_set] at N8
                  have z7 := B6.out.size
                  have HN8 := Lib.hid N8
                  clear rep8 k8 es rl N8
                  go_wp2_with fail
                  go_roundw
                  case rel => exact ⟨k + 1, _, _, by omega, by go_num, HN8.out.1, fun x hx => hx.elim (HF2.out x) (fun h => by omega), B6.out.trans (HN8.out.2.below z7 HF2.out)⟩
                  case measure => simp [intOf]; omega
              · obtain rfl : n = k := by omega
                have HT2 := Lib.hid hT
                have HF2 := Lib.hid hf2
                have HB2 := Lib.hid bely
                clear hT hf2 bely
                go_wp2_with fail
                go_roundw
                case rel => exact ⟨i + 1, f2, cl2, by omega, by go_num, by rw [← stN_next]; exact HT2.out, HF2.out, HB2.out⟩
                case measure => simp [intOf]; omega
          · obtain rfl : n = i := by omega
            have HT := Lib.hid hT
            have HFx := Lib.hid hf'
            have HBx := Lib.hid bel
            clear hT hf' bel
            go_wp2_with fail
            go_ret2
            exact ⟨t, f', rfl, ⟨_, _, _, _, _, _, _, _, _, HT.out⟩, HFx.out, HBx.out⟩
end Go.Proofs.YtpomdnglknbanaaGreat
namespace Go.Proofs.YtpomdnglknbanaaGreat
open Go Go.RowKit
theorem lit_own {w : World} {base n size : Nat} {T : TypeId} {xs : Array Value} (hl : xs.size = n * size) (hb : base ≤ w.heap.size) (hn : n ≤ maxLen) : (w.alloc (.cells xs T)).ownsRow base T size (.slice (some ⟨w.heap.size, 0, none⟩) n n) n xs.toList :=
  ⟨by simpa using hl, .inr ⟨w.heap.size, n, xs, rfl, hb, heap_alloc_new' w _, Nat.le_refl _, hn, hl, by rw [List.take_of_length_le (by simp [hl])]⟩⟩
/-- What New leaves. -/
theorem stN_nd (C : Nat → Cfg) {n j : Nat} (hj : j < n) : (stN C n n 0).nd j = wpS C j n := by
  show (if j < n then _ else _) = _
  rw [if_pos hj]
theorem wpS_tn {C : Nat → Cfg} {n j : Nat} (hn : n ≤ 5) (hC : ∀ j, j < n → CfgOK (C j)) (hne : ∀ i j, i < n → j < n → (C i).id = (C j).id → i = j) (hj : j < n) : TN (wpS C j n) :=
  ⟨(wpS_ok hn hC hne hj n (Nat.le_refl _)).1, rfl, by show (0 : Int) = 0 / _; simp⟩
def twoC (E1 E2 z L : Int) (j : Nat) : Cfg := if j = 0 then ⟨nA, E1, z, L⟩ else ⟨nB, E2, z, L⟩
theorem twoC_ok {E1 E2 z L : Int} (h1 : 1 ≤ E1 ∧ E1 ≤ 50) (h2 : 1 ≤ E2 ∧ E2 ≤ 50) (h3 : 1 ≤ z ∧ z ≤ 64) (h4 : 1 ≤ L ∧ L ≤ 50) : (∀ j, j < 2 → CfgOK (twoC E1 E2 z L j)) ∧ (∀ i j, i < 2 → j < 2 → (twoC E1 E2 z L i).id = (twoC E1 E2 z L j).id → i = j) := by
  refine ⟨fun j hj => ?_, fun i j hi hj h => ?_⟩
  · unfold twoC
    split
    · exact ⟨nA_ok, by show 1 ≤ E1 ∧ E1 ≤ _; omega, h3, by show 1 ≤ L ∧ L ≤ _; omega⟩
    · exact ⟨nB_ok, by show 1 ≤ E2 ∧ E2 ≤ _; omega, h3, by show 1 ≤ L ∧ L ≤ _; omega⟩
  · have hab : nA ≠ nB := by decide
    unfold twoC at h
    split at h <;> split at h
    · omega
    · exact absurd h hab
    · exact absurd h.symm hab
    · omega
theorem twoC_row (E1 E2 z L : Int) : cfgV (twoC E1 E2 z L) 2 = [.string ⟨#[97]⟩, .int .i64 0, .int .i64 E1, .int .i64 z, .int .i64 L, .string ⟨#[98]⟩, .int .i64 0, .int .i64 E2, .int .i64 z, .int .i64 L] := rfl
/-- A town of two. -/
def twoS (E1 E2 z L : Int) : TSt := stN (twoC E1 E2 z L) 2 2 0
theorem twoS_tn {E1 E2 z L : Int} (h1 : 1 ≤ E1 ∧ E1 ≤ 50) (h2 : 1 ≤ E2 ∧ E2 ≤ 50) (h3 : 1 ≤ z ∧ z ≤ 64) (h4 : 1 ≤ L ∧ L ≤ 50) : ∀ j, j < 2 → TN ((twoS E1 E2 z L).nd j) := fun j hj => by
  obtain ⟨a, b⟩ := twoC_ok h1 h2 h3 h4
  unfold twoS
  rw [stN_nd _ hj]
  exact wpS_tn (by omega) a b hj
theorem tnew2_ok (E1 E2 z L : Int) (w : World) (h1 : 1 ≤ E1 ∧ E1 ≤ 50) (h2 : 1 ≤ E2 ∧ E2 ≤ 50) (h3 : 1 ≤ z ∧ z ≤ 64) (h4 : 1 ≤ L ∧ L ≤ 50) :
    Calls Tryz.prog 33 #[.slice (some ⟨w.heap.size, 0, none⟩) 2 2] (w.alloc (.cells #[.string ⟨#[97]⟩, .int .i64 0, .int .i64 E1, .int .i64 z, .int .i64 L, .string ⟨#[98]⟩, .int .i64 0, .int .i64 E2, .int .i64 z, .int .i64 L] 76))
      fun e w' => ∃ t f, e = .returned (.tuple #[.pointer (some ⟨t, 0, none⟩), .int .i64 0]) ∧ TRep w' t (twoS E1 E2 z L) f ∧ (∀ x, f x → w.heap.size ≤ x) ∧ Below w.heap.size w w' := by
  obtain ⟨a, b⟩ := twoC_ok h1 h2 h3 h4
  have own := lit_own (w := w) (base := w.heap.size) (n := 2) (size := 5) (T := 76) (xs := #[.string ⟨#[97]⟩, .int .i64 0, .int .i64 E1, .int .i64 z, .int .i64 L, .string ⟨#[98]⟩, .int .i64 0, .int .i64 E2, .int .i64 z, .int .i64 L]) rfl (Nat.le_refl _) (by unfold maxLen; omega)
  have own' : (w.alloc (.cells #[.string ⟨#[97]⟩, .int .i64 0, .int .i64 E1, .int .i64 z, .int .i64 L, .string ⟨#[98]⟩, .int .i64 0, .int .i64 E2, .int .i64 z, .int .i64 L] 76)).ownsRow w.heap.size 76 5 (.slice (some ⟨w.heap.size, 0, none⟩) 2 2) 2 (cfgV (twoC E1 E2 z L) 2) := by rw [twoC_row]; exact own
  refine (tnew_ok 2 2 w.heap.size _ _ _ own' (by omega) a b).mono ?_
  rintro e w' ⟨t, f, rfl, h, hf, hb⟩
  have ab : Below w.heap.size w (w.alloc (.cells #[.string ⟨#[97]⟩, .int .i64 0, .int .i64 E1, .int .i64 z, .int .i64 L, .string ⟨#[98]⟩, .int .i64 0, .int .i64 E2, .int .i64 z, .int .i64 L] 76)) := (Below.refl _ _).alloc (Nat.le_refl _) _
  exact ⟨t, f, rfl, h, fun x hx => Nat.le_trans ab.size (hf x hx), ab.trans (hb.mono ab.size)⟩
theorem two_tick {E1 E2 z L : Int} (h1 : 1 ≤ E1 ∧ E1 ≤ 50) (h2 : 1 ≤ E2 ∧ E2 ≤ 50) (h3 : 1 ≤ z ∧ z ≤ 64) (h4 : 1 ≤ L ∧ L ≤ 50) {g : Int} (hg : 1 ≤ g ∧ g ≤ 60) : TickOK (twoS E1 E2 z L) g :=
  ⟨by show 2 ≤ 5; omega, by omega, twoS_tn h1 h2 h3 h4, fun j hj _ => by
    unfold twoS
    rw [stN_nd _ (show j < 2 from hj)]
    have he : 1 ≤ (wpS (twoC E1 E2 z L) j 2).every := by
      show 1 ≤ (twoC E1 E2 z L j).every
      unfold twoC
      split
      · exact h1.1
      · exact h2.1
    exact ⟨by show (0 : Int) + g ≤ _; omega, by have := seq_le (n := g) (by omega) he; omega⟩, by show (0 : Nat) ≤ 1000; omega⟩
set_option maxRecDepth 100000 in
set_option maxHeartbeats 8000000 in
theorem tbegun2_ok (w : World) : Calls Tryz.prog 5 #[] w fun e w' => e = .returned (.bool true) ∧ Below w.heap.size w w' := by
  have HN := Lib.hid (fun w' => tnew2_ok 5 7 3 1 w' (by omega) (by omega) (by omega) (by omega))
  have ok := two_tick (E1 := 5) (E2 := 7) (z := 3) (L := 1) (g := 10) (by omega) (by omega) (by omega) (by omega) (by omega)
  have hs : sumM (twoS 5 7 3 1) 10 2 = 3 := by
    unfold sumM
    have t0 : (txN (twoS 5 7 3 1) 10 0).length = 2 := by
      show (txT (wpS (twoC 5 7 3 1) 0 2) 10).length = 2
      unfold txT
      rw [sentB_len]
      rfl
    have t1 : (txN (twoS 5 7 3 1) 10 1).length = 1 := by
      show (txT (wpS (twoC 5 7 3 1) 1 2) 10).length = 1
      unfold txT
      rw [sentB_len]
      rfl
    rw [show List.range 2 = [0, 1] from rfl]
    simp [t0, t1]
  have HT := Lib.hid (fun t f w' (h : TRep w' t (twoS 5 7 3 1) f) => ttick_ok w' h ok)
  rw [show (twoS 5 7 3 1).n = 2 from rfl, hs, show (twoS 5 7 3 1).way.length = 0 from rfl] at HT
  have hwl : (twS (twoS 5 7 3 1) 10 2).way.length = 3 := by rw [sumM_way, hs]; rfl
  have HW := Lib.hid hwl
  clear ok hs hwl
  go_enter Tryz.func5, Tryz.ntmps5
  go_wp2_with fail
  refine (HN.out _).mono ?_
  rintro e w1 ⟨t, f, rfl, h1, hf1, hb1⟩
  have T1 := Lib.hid h1
  have F1 := Lib.hid hf1
  have B1 := Lib.hid hb1
  clear h1 hf1 hb1
  go_wp2_with fail
  refine (HT.out _ _ _ T1.out).mono ?_
  rintro e w2 (⟨h, _⟩ | ⟨_, A2, c2, f2, rfl, _, h2, hf2, k2⟩)
  · exact absurd h (by omega)
  · have T2 := Lib.hid h2
    have B2 := Lib.hid (B1.out.trans (k2.below B1.out.size F1.out))
    have HWy := Lib.hid (tway_ok w2 h2 (by rw [HW.out]; omega))
    rw [HW.out] at HWy
    clear h2 hf2 k2
    go_wp2_with fail
    refine HWy.out.mono ?_
    rintro e w3 ⟨A3, c3, rfl, _, hb3⟩
    have B3 := Lib.hid (B2.out.trans (hb3.mono B2.out.size))
    clear hb3
    go_wp2_with fail
    go_ret
    exact ⟨rfl, B3.out⟩
set_option maxRecDepth 100000 in
set_option maxHeartbeats 8000000 in
theorem two_ok (e0 l0 E L : Int) (w : World) (hE : within e0 20 = E - 1) (hL : within l0 20 = L - 1) :
    Calls Tryz.prog 12 #[.int .i64 e0, .int .i64 l0] w fun e w' => ∃ t f, e = .returned (.pointer (some ⟨t, 0, none⟩)) ∧ TRep w' t (twoS E E 4 L) f ∧ (∀ x, f x → w.heap.size ≤ x) ∧ Below w.heap.size w w' := by
  have b1 := within_bd e0 (n := 20) (by omega)
  have b2 := within_bd l0 (n := 20) (by omega)
  have v1 : IntKind.i64.wrap (1 + (E - 1)) = E := by rw [show 1 + (E - 1) = E by omega]; exact IntWalk.i64_in _ (by omega)
  have v2 : IntKind.i64.wrap (1 + (L - 1)) = L := by rw [show 1 + (L - 1) = L by omega]; exact IntWalk.i64_in _ (by omega)
  have HN := Lib.hid (fun w' => tnew2_ok E E 4 L w' (by omega) (by omega) (by omega) (by omega))
  obtain ⟨E1, hE1⟩ : ∃ x, E - 1 = x := ⟨_, rfl⟩
  obtain ⟨L1, hL1⟩ : ∃ x, L - 1 = x := ⟨_, rfl⟩
  rw [hE1] at hE v1
  rw [hL1] at hL v2
  have HE := Lib.hid (And.intro hE hL)
  clear hE hL hE1 hL1 b1 b2
  go_enter Tryz.func12, Tryz.ntmps12
  go_wp2_with fail
  refine (within_any e0 20 E1 _ (by omega) (by omega) HE.out.1).mono ?_
  rintro e w' ⟨rfl, rfl⟩
  go_wp2_with fail
  refine (within_any l0 20 L1 _ (by omega) (by omega) HE.out.2).mono ?_
  rintro e w' ⟨rfl, rfl⟩
  go_wp2_with fail
  refine (within_any e0 20 E1 _ (by omega) (by omega) HE.out.1).mono ?_
  rintro e w' ⟨rfl, rfl⟩
  go_wp2_with fail
  refine (within_any l0 20 L1 _ (by omega) (by omega) HE.out.2).mono ?_
  rintro e w' ⟨rfl, rfl⟩
  go_wp2_with fail
  refine (HN.out _).mono ?_
  rintro e w1 ⟨t, f, rfl, h1, hf1, hb1⟩
  have T1 := Lib.hid h1
  have F1 := Lib.hid hf1
  have B1 := Lib.hid hb1
  clear h1 hf1 hb1
  go_wp2_with fail
  go_ret
  exact ⟨t, f, rfl, T1.out, F1.out, B1.out⟩
end Go.Proofs.YtpomdnglknbanaaGreat
namespace Go.Proofs.YtpomdnglknbanaaGreat
open Go Go.RowKit
def nmT (k : Nat) : ByteArray := if k = 0 then nA else if k = 1 then nB else nC
theorem nmT_ok (k : Nat) : IdOK (byts (nmT k)) := by
  unfold nmT
  split
  · exact nA_ok
  · split
    · exact nB_ok
    · exact nC_ok
theorem nmT_inj {i j : Nat} (hi : i < 3) (hj : j < 3) (h : nmT i = nmT j) : i = j := by
  have ab : nA ≠ nB := by decide
  have ac : nA ≠ nC := by decide
  have bc : nB ≠ nC := by decide
  rcases (show i = 0 ∨ i = 1 ∨ i = 2 by omega) with rfl | rfl | rfl <;> rcases (show j = 0 ∨ j = 1 ∨ j = 2 by omega) with rfl | rfl | rfl <;> first | rfl | exact absurd h ab | exact absurd h ac | exact absurd h bc | exact absurd h.symm ab | exact absurd h.symm ac | exact absurd h.symm bc
/-- What a node knows of another. -/
def prT (s : NSt) (id : ByteArray) : Peer := s.peers.getD (pos s.peers id) default
/-- What holds of a town. -/
structure TOK (n : Nat) (E : Nat → Int) (T : Int) (S : TSt) : Prop where
  n3 : n ≤ 3
  sn : S.n = n
  tn : ∀ i, i < n → TN (S.nd i)
  id : ∀ i, i < n → (S.nd i).id = nmT i
  every : ∀ i, i < n → (S.nd i).every = E i
  now : ∀ i, i < n → (S.nd i).now ≤ T
  knows : ∀ i j, i < n → j < n → has (S.nd i).peers (nmT j) = decide (i ≠ j)
  peer : ∀ i j, i < n → j < n → i ≠ j → (prT (S.nd i) (nmT j)).inc = 0 ∧ 0 ≤ (prT (S.nd i) (nmT j)).seq ∧ (prT (S.nd i) (nmT j)).seq ≤ (S.nd j).seq
  way : ∀ x, x ∈ S.way → ∃ j q, j < n ∧ 1 ≤ q ∧ q ≤ (S.nd j).seq ∧ x = mkB (encL (byts (nmT j)) 0 q.toNat)
  len : S.way.length ≤ 1000
theorem prT_mem {s : NSt} {id : ByteArray} (h : has s.peers id = true) : prT s id ∈ s.peers ∧ (prT s id).id = id := by
  refine ⟨?_, has_id h⟩
  unfold prT
  rw [List.getD_eq_getElem?_getD, List.getElem?_eq_getElem (has_lt h)]
  exact List.getElem_mem _
theorem wpP_all {C : Nat → Cfg} {j : Nat} {p : Peer} : ∀ {k}, p ∈ wpP C j k → p.inc = 0 ∧ p.seq = 0 ∧ p.last = 0 ∧ ∃ i, i < k ∧ i ≠ j ∧ p.id = (C i).id ∧ p.vals = [(C i).every]
  | 0, h => by cases h
  | k + 1, h => by
    unfold wpP at h
    split at h
    · obtain ⟨h1, h2, h3, i, h4, h5⟩ := wpP_all h
      exact ⟨h1, h2, h3, i, by omega, h5⟩
    · rename_i hk
      rcases addS_mem.1 h with rfl | h
      · exact ⟨rfl, rfl, rfl, k, by omega, hk, rfl, rfl⟩
      · obtain ⟨h1, h2, h3, i, h4, h5⟩ := wpP_all h
        exact ⟨h1, h2, h3, i, by omega, h5⟩
theorem wpP_in {C : Nat → Cfg} {j i : Nat} (hne : i ≠ j) : ∀ {k}, i < k → ∃ p ∈ wpP C j k, p.id = (C i).id
  | 0, h => by omega
  | k + 1, h => by
    unfold wpP
    by_cases e : k = j
    · rw [if_pos e]
      exact wpP_in hne (by omega)
    · rw [if_neg e]
      by_cases e2 : i = k
      · subst e2
        exact ⟨_, addS_mem.2 (.inl rfl), rfl⟩
      · obtain ⟨p, hp, he⟩ := wpP_in (C := C) (j := j) hne (k := k) (by omega)
        exact ⟨p, addS_mem.2 (.inr hp), he⟩
theorem tok_start {n : Nat} {C : Nat → Cfg} (h3 : n ≤ 3) (hC : ∀ j, j < n → CfgOK (C j)) (hid : ∀ j, j < n → (C j).id = nmT j) : TOK n (fun j => (C j).every) 0 (stN C n n 0) := by
  have hne : ∀ i j, i < n → j < n → (C i).id = (C j).id → i = j := fun i j hi hj h => nmT_inj (by omega) (by omega) (by rw [← hid i hi, ← hid j hj, h])
  have tn : ∀ i, i < n → TN (wpS C i n) := fun i hi => wpS_tn (by omega) hC hne hi
  have kn : ∀ i j, i < n → j < n → has (wpP C i n) (nmT j) = decide (i ≠ j) := fun i j hi hj => by
    have ord := (tn i hi).ok.tab.order
    by_cases e : i = j
    · subst e
      rw [show decide (i ≠ i) = false by simp]
      cases hh : has (wpP C i n) (nmT i) with
      | false => rfl
      | true =>
        obtain ⟨p, hp, he⟩ := (has_iff ord _).1 hh
        obtain ⟨k, hk1, hk2, hk3⟩ := wpP_mem hp
        have := hne k i hk1 hi (by rw [← hk3, he, hid i hi])
        omega
    · rw [show decide (i ≠ j) = true by simp [e]]
      obtain ⟨p, hp, he⟩ := wpP_in (C := C) (j := i) (i := j) (fun h => e h.symm) hj
      exact (has_iff ord _).2 ⟨p, hp, by rw [he, hid j hj]⟩
  refine ⟨h3, rfl, fun i hi => ?_, fun i hi => ?_, fun i hi => ?_, fun i hi => ?_, fun i j hi hj => ?_, fun i j hi hj hij => ?_, fun x hx => (by cases hx), by show (0 : Nat) ≤ 1000; omega⟩
  · rw [stN_nd C hi]; exact tn i hi
  · rw [stN_nd C hi]; exact hid i hi
  · rw [stN_nd C hi]; rfl
  · rw [stN_nd C hi]; exact Int.le_refl _
  · rw [stN_nd C hi]; exact kn i j hi hj
  · rw [stN_nd C hi, stN_nd C hj]
    have hh : has (wpS C i n).peers (nmT j) = true := by
      have := kn i j hi hj
      rw [show decide (i ≠ j) = true by simp [hij]] at this
      exact this
    obtain ⟨h1, h2, _⟩ := wpP_all (prT_mem hh).1
    exact ⟨h1, by rw [h2]; exact Int.le_refl _, by rw [h2]; exact (tn j hj).ok.seq.1⟩
section
variable {n : Nat} {E : Nat → Int} {T g : Int} {S : TSt}
theorem TOK.tickOK (h : TOK n E T S) (hg : 1 ≤ g ∧ g ≤ 1000) (hT : T + g ≤ 1073741824) (hE : ∀ i, i < n → g / E i < 64) : TickOK S g :=
  ⟨by have := h.n3; have := h.sn; omega, hg, fun j hj => h.tn j (by have := h.sn; omega), fun j hj _ => ⟨by have := h.now j (by have := h.sn; omega); omega, by rw [h.every j (by have := h.sn; omega)]; exact hE j (by have := h.sn; omega)⟩, h.len⟩
theorem tk_live {j : Nat} (hd : S.dead j = false) : tkN S g j = (tickF (S.nd j) g).1 := by unfold tkN; rw [hd]; rfl
theorem tk_dead {j : Nat} (hd : S.dead j = true) : tkN S g j = S.nd j := by unfold tkN; rw [if_pos hd]
theorem twS_nd {k j : Nat} (hj : j < k) : (twS S g k).nd j = tkN S g j := by show (if j < k then _ else _) = _; rw [if_pos hj]
theorem tk_peers (j : Nat) : (tkN S g j).peers = (S.nd j).peers := by
  cases hd : S.dead j with
  | false => rw [tk_live hd]; rfl
  | true => rw [tk_dead hd]
theorem TN.seq_tick {s : NSt} (h : TN s) (hg : 1 ≤ g) : s.seq ≤ (s.now + g) / s.every := by
  rw [h.seq]
  exact Int.ediv_le_ediv (by have := h.ok.every; omega) (by omega)
theorem TOK.seq_le (h : TOK n E T S) (hg : 1 ≤ g) {j : Nat} (hj : j < n) : (S.nd j).seq ≤ (tkN S g j).seq := by
  cases hd : S.dead j with
  | true => rw [tk_dead hd]; exact Int.le_refl _
  | false => rw [tk_live hd]; exact (h.tn j hj).seq_tick hg
theorem TOK.tick (h : TOK n E T S) (hg : 1 ≤ g ∧ g ≤ 1000) (hT : T + g ≤ 1073741824) (hw : S.way.length + sumM S g n ≤ 1000) : TOK n E (T + g) (twS S g n) := by
  have sq := fun j (hj : j < n) => h.seq_le hg.1 hj
  refine ⟨h.n3, h.sn, fun i hi => ?_, fun i hi => ?_, fun i hi => ?_, fun i hi => ?_, fun i j hi hj => ?_, fun i j hi hj hij => ?_, fun x hx => ?_, by rw [sumM_way]; exact hw⟩
  · rw [twS_nd hi]
    cases hd : S.dead i with
    | true => rw [tk_dead hd]; exact h.tn i hi
    | false => rw [tk_live hd]; exact ((h.tn i hi).tick hg.1 (by have := h.now i hi; omega)).tell
  · rw [twS_nd hi]
    cases hd : S.dead i with
    | true => rw [tk_dead hd]; exact h.id i hi
    | false => rw [tk_live hd]; exact h.id i hi
  · rw [twS_nd hi]
    cases hd : S.dead i with
    | true => rw [tk_dead hd]; exact h.every i hi
    | false => rw [tk_live hd]; exact h.every i hi
  · rw [twS_nd hi]
    have := h.now i hi
    cases hd : S.dead i with
    | true => rw [tk_dead hd]; omega
    | false => rw [tk_live hd]; show (S.nd i).now + g ≤ _; omega
  · rw [twS_nd hi, tk_peers]; exact h.knows i j hi hj
  · rw [twS_nd hi, twS_nd hj]
    unfold prT
    rw [tk_peers]
    obtain ⟨h1, h2, h3⟩ := h.peer i j hi hj hij
    exact ⟨h1, h2, Int.le_trans h3 (sq j hj)⟩
  · have hx' : x ∈ S.way ++ (List.range n).flatMap (txN S g) := hx
    rcases List.mem_append.1 hx' with hx | hx
    · obtain ⟨j, q, hj, h1, h2, h3⟩ := h.way x hx
      exact ⟨j, q, hj, h1, by rw [twS_nd hj]; exact Int.le_trans h2 (sq j hj), h3⟩
    · obtain ⟨j, hj, hx⟩ := List.mem_flatMap.1 hx
      have hj := List.mem_range.1 hj
      cases hd : S.dead j with
      | true => unfold txN at hx; rw [if_pos hd] at hx; cases hx
      | false =>
        unfold txN at hx
        rw [hd] at hx
        have hx : x ∈ sentB (S.nd j).id 0 ((S.nd j).now / (S.nd j).every).toNat (mT (S.nd j) g) := hx
        obtain ⟨k, hk, rfl⟩ := List.mem_map.1 hx
        have hk := List.mem_range.1 hk
        unfold mT at hk
        have nw := (h.tn j hj).ok.now
        have ev := (h.tn j hj).ok.every
        have s0 := Go.Proofs.YtpomdnglknbanaaGreat.seq_le (n := (S.nd j).now) (E := (S.nd j).every) (by omega) ev.1
        refine ⟨j, (((S.nd j).now / (S.nd j).every).toNat + 1 + k : Nat), hj, by omega, ?_, ?_⟩
        · rw [twS_nd hj, tk_live hd]
          show _ ≤ ((S.nd j).now + g) / (S.nd j).every
          omega
        · rw [h.id j hj]
          rfl
theorem TOK.later (h : TOK n E T S) {T' : Int} (hT : T ≤ T') : TOK n E T' S := ⟨h.n3, h.sn, h.tn, h.id, h.every, fun i hi => Int.le_trans (h.now i hi) hT, h.knows, h.peer, h.way, h.len⟩
theorem TOK.stop (h : TOK n E T S) (i : Nat) : TOK n E T (stopN S i) := ⟨h.n3, h.sn, h.tn, h.id, h.every, h.now, h.knows, h.peer, h.way, h.len⟩
theorem TOK.lose (h : TOK n E T S) {L : List ByteArray} (hm : ∀ x, x ∈ L → x ∈ S.way) (hl : L.length ≤ S.way.length) : TOK n E T (wayN S L) := ⟨h.n3, h.sn, h.tn, h.id, h.every, h.now, h.knows, h.peer, fun x hx => h.way x (hm x hx), Nat.le_trans hl h.len⟩

/-! One node hears. -/
variable {s : NSt} {id : ByteArray} {q : Int}
theorem hearF_no (h : has s.peers id = false) : hearF s id q = (dropQ s, []) := by unfold hearF; rw [if_neg (by rw [h]; simp)]
theorem hearF_old (h : has s.peers id = true) (hn : newB s id q = false) : hearF s id q = (dropQ (hearQ s id q), []) := by unfold hearF; rw [if_pos h, if_neg (by rw [hn]; simp)]
theorem hearF_new (h : has s.peers id = true) (hn : newB s id q = true) : hearF s id q = (tellS (hearQ s id q), toldN (hearQ s id q)) := by unfold hearF; rw [if_pos h, if_pos hn]
theorem newB_iff (h : (prT s id).inc = 0) : newB s id q = decide ((prT s id).seq < q) := by
  show newer (prT s id) 0 q = _
  unfold newer
  rw [h]
  simp
theorem hearF_peers (h : has s.peers id = true) : (hearF s id q).1.peers = hearS s.peers id 0 q s.now := by
  cases hn : newB s id q with
  | true => rw [hearF_new h hn]; rfl
  | false => rw [hearF_old h hn]; rfl
theorem hearF_same : (hearF s id q).1.id = s.id ∧ (hearF s id q).1.inc = s.inc ∧ (hearF s id q).1.every = s.every ∧ (hearF s id q).1.now = s.now ∧ (hearF s id q).1.seq = s.seq ∧ (hearF s id q).1.least = s.least := by
  unfold hearF
  split
  · split <;> exact ⟨rfl, rfl, rfl, rfl, rfl, rfl⟩
  · exact ⟨rfl, rfl, rfl, rfl, rfl, rfl⟩
theorem hearF_ids : (hearF s id q).1.peers.map (·.id) = s.peers.map (·.id) := by
  cases h : has s.peers id with
  | false => rw [hearF_no h]; rfl
  | true => rw [hearF_peers h]; exact hearS_ids _ _ _ _ _
theorem hearF_has (x : ByteArray) : has (hearF s id q).1.peers x = has s.peers x := has_ids hearF_ids x
/-- What is known of whom behind it. -/
theorem prT_hear (h : has s.peers id = true) {x : ByteArray} (hx : has s.peers x = true) : prT (hearF s id q).1 x = if x = id then heardP (prT s id) 0 q s.now else prT s x := by
  unfold prT
  rw [hearF_peers h, pos_ids (hearS_ids ..), hearS_get h]
  by_cases e : x = id
  · subst e
    rw [if_pos rfl, if_pos rfl]
  · rw [if_neg e, if_neg (fun e2 => e (by rw [← has_id hx, e2, has_id h]))]
theorem TN.hear (h : TN s) (hid : IdOK (byts id)) (hq : 1 ≤ q ∧ q < 2147483648) : TN (hearF s id q).1 := by
  have eq : ((q.toNat : Nat) : Int) = q := by omega
  have dr : ∀ {t : NSt}, NOK t → NOK (dropQ t) := fun {t} k => by
    have h2 := more_bd k.drops.1
    exact ⟨k.id, k.inc, k.every, k.cap, k.least, k.now, k.seq, ⟨h2.1, h2.2.1⟩, k.tab, k.wins, k.subs⟩
  obtain ⟨_, e2, e3, e4, e5, _⟩ := hearF_same (s := s) (id := id) (q := q)
  refine ⟨?_, by rw [e2]; exact h.inc, by rw [e5, e4, e3]; exact h.seq⟩
  cases hh : has s.peers id with
  | false => rw [hearF_no hh]; exact dr h.ok
  | true =>
    have hb := h.ok.hears (i := 0) (q := q.toNat) ⟨hid, by omega, by omega, by omega⟩ hh
    rw [eq] at hb
    have k : NOK (hearQ s id q) := h.ok.hear hb
    cases hn : newB s id q with
    | true => rw [hearF_new hh hn]; exact k.tell
    | false => rw [hearF_old hh hn]; exact dr k
/-- A text is brought. -/
theorem TOK.text (h : TOK n E T S) (hT : T ≤ 1073741824) {i : Nat} (hi : i < S.way.length) : ∃ j q, j < n ∧ 1 ≤ q ∧ q < 2147483648 ∧ q ≤ (S.nd j).seq ∧ S.way.getD i ⟨#[]⟩ = mkB (encL (byts (nmT j)) 0 q.toNat) := by
  have hm : S.way.getD i ⟨#[]⟩ ∈ S.way := getD_mem hi
  obtain ⟨j, q, hj, h1, h2, h3⟩ := h.way _ hm
  have := (h.tn j hj).ok.seq
  have := (h.tn j hj).ok.now
  exact ⟨j, q, hj, h1, by omega, h2, h3⟩
theorem setN_at (S : TSt) (u : Nat) (s : NSt) : (setN S u s).nd u = s := by show (if u = u then _ else _) = _; rw [if_pos rfl]
theorem setN_ne (S : TSt) {u i : Nat} (s : NSt) (h : i ≠ u) : (setN S u s).nd i = S.nd i := by show (if i = u then _ else _) = _; rw [if_neg h]
theorem setN_seq {u j i : Nat} : ((setN S u (hearF (S.nd u) (nmT j) q).1).nd i).seq = (S.nd i).seq := by
  by_cases e : i = u
  · subst e; rw [setN_at]; exact hearF_same.2.2.2.2.1
  · rw [setN_ne _ _ e]
theorem TOK.bring (h : TOK n E T S) {u j : Nat} (hu : u < n) (hj : j < n) (hq : 1 ≤ q ∧ q < 2147483648) (hs : q ≤ (S.nd j).seq) : TOK n E T (setN S u (hearF (S.nd u) (nmT j) q).1) := by
  obtain ⟨e1, e2, e3, e4, e5, e6⟩ := hearF_same (s := S.nd u) (id := nmT j) (q := q)
  have sq : ∀ i, ((setN S u (hearF (S.nd u) (nmT j) q).1).nd i).seq = (S.nd i).seq := fun i => setN_seq
  refine ⟨h.n3, h.sn, fun i hi => ?_, fun i hi => ?_, fun i hi => ?_, fun i hi => ?_, fun i k hi hk => ?_, fun i k hi hk hik => ?_, fun x hx => ?_, h.len⟩
  · by_cases e : i = u
    · subst e; rw [setN_at]; exact (h.tn i hi).hear (nmT_ok j) hq
    · rw [setN_ne _ _ e]; exact h.tn i hi
  · by_cases e : i = u
    · subst e; rw [setN_at, e1]; exact h.id i hi
    · rw [setN_ne _ _ e]; exact h.id i hi
  · by_cases e : i = u
    · subst e; rw [setN_at, e3]; exact h.every i hi
    · rw [setN_ne _ _ e]; exact h.every i hi
  · by_cases e : i = u
    · subst e; rw [setN_at, e4]; exact h.now i hi
    · rw [setN_ne _ _ e]; exact h.now i hi
  · by_cases e : i = u
    · subst e; rw [setN_at, hearF_has]; exact h.knows i k hi hk
    · rw [setN_ne _ _ e]; exact h.knows i k hi hk
  · rw [sq]
    by_cases e : i = u
    · subst e
      rw [setN_at]
      have hx := h.knows i k hi hk
      rw [show decide (i ≠ k) = true by simp [hik]] at hx
      have hp := h.peer i k hi hk hik
      cases hh : has (S.nd i).peers (nmT j) with
      | false => rw [hearF_no hh]; exact hp
      | true =>
        rw [prT_hear hh hx]
        by_cases e2 : nmT k = nmT j
        · have := nmT_inj (by have := h.n3; omega) (by have := h.n3; omega) e2
          subst this
          rw [if_pos rfl]
          unfold heardP
          split
          · exact ⟨rfl, by show 0 ≤ q; omega, hs⟩
          · exact hp
        · rw [if_neg e2]; exact hp
    · rw [setN_ne _ _ e]; exact h.peer i k hi hk hik
  · obtain ⟨k, q', hk, h1, h2, h3⟩ := h.way x hx
    exact ⟨k, q', hk, h1, by rw [sq]; exact h2, h3⟩
/-- Nobody asked to be told. -/
def Mute (S : TSt) : Prop := ∀ i, (S.nd i).subs = []
theorem mute_start (C : Nat → Cfg) (n i k : Nat) : Mute (stN C n i k) := fun j => by
  show (if j < i then wpS C j n else if j = i then wpS C j k else wpS C j 0).subs = []
  split
  · rfl
  · split <;> rfl
theorem told_mute {t : NSt} (h : t.subs = []) : toldS t = [] ∧ toldN t = [] := by
  unfold toldS toldN
  rw [h]
  exact ⟨rfl, rfl⟩
theorem Mute.tick (h : Mute S) (k : Nat) : Mute (twS S g k) ∧ twN S g k = [] := by
  refine ⟨fun i => ?_, ?_⟩
  · show (if i < k then tkN S g i else S.nd i).subs = []
    split
    · cases hd : S.dead i with
      | true => rw [tk_dead hd]; exact h i
      | false => rw [tk_live hd]; exact (told_mute (t := tickS (S.nd i) g) (h i)).1
    · exact h i
  · unfold twN
    rw [List.flatMap_eq_nil_iff]
    intro i _
    unfold noN
    split
    · rfl
    · exact (told_mute (t := tickS (S.nd i) g) (h i)).2
theorem hear_mute (h : s.subs = []) : (hearF s id q).1.subs = [] ∧ (hearF s id q).2 = [] := by
  unfold hearF
  split
  · split
    · exact told_mute (t := hearQ s id q) h
    · exact ⟨h, rfl⟩
  · exact ⟨h, rfl⟩
theorem Mute.bring (h : Mute S) (u j : Nat) : Mute (setN S u (hearF (S.nd u) (nmT j) q).1) := fun i => by
  by_cases e : i = u
  · subst e; rw [setN_at]; exact (hear_mute (h i)).1
  · rw [setN_ne _ _ e]; exact h i
theorem Mute.lose (h : Mute S) (L : List ByteArray) : Mute (wayN S L) := h
theorem Mute.stop (h : Mute S) (i : Nat) : Mute (stopN S i) := h
/-- What was heard is not let through again. -/
theorem newB_again (h : has s.peers id = true) : newB (hearF s id q).1 id q = false := by
  show newer (prT (hearF s id q).1 id) 0 q = false
  rw [prT_hear h h, if_pos rfl]
  exact newer_heard _ _ _ _
/-- Heard twice: nothing is told, nobody is suspected more or less. -/
theorem hear_again : (hearF (hearF s id q).1 id q).2 = [] ∧ ∀ x, levN (hearF (hearF s id q).1 id q).1 x = levN (hearF s id q).1 x := by
  obtain ⟨t, ht⟩ : ∃ t, (hearF s id q).1 = t := ⟨_, rfl⟩
  rw [ht]
  cases h : has s.peers id with
  | false =>
    have h2 : has t.peers id = false := by rw [← ht, hearF_has]; exact h
    rw [hearF_no h2]
    exact ⟨rfl, fun x => rfl⟩
  | true =>
    have h2 : has t.peers id = true := by rw [← ht, hearF_has]; exact h
    have hn : newB t id q = false := by rw [← ht]; exact newB_again h
    rw [hearF_old h2 hn]
    exact ⟨rfl, fun x => lev_old h2 hn x⟩
end
/-! A town of two. -/
structure TwoT (E T : Int) (S : TSt) : Prop where
  tok : TOK 2 (fun _ => E) T S
  mute : Mute S
  dead : S.dead = fun _ => false
theorem twoT_start {E L : Int} (hE : 1 ≤ E ∧ E ≤ 50) (hL : 1 ≤ L ∧ L ≤ 50) : TwoT E 0 (twoS E E 4 L) := by
  have hC := (twoC_ok (z := 4) hE hE (by omega) hL).1
  have h := tok_start (n := 2) (C := twoC E E 4 L) (by omega) hC (fun j hj => by
    rcases (show j = 0 ∨ j = 1 by omega) with rfl | rfl <;> rfl)
  have he : (fun j => (twoC E E 4 L j).every) = fun _ => E := by
    funext j
    unfold twoC
    split <;> rfl
  rw [he] at h
  exact ⟨h, mute_start _ _ _ _, rfl⟩
section
variable {E T g : Int} {S : TSt}
theorem TwoT.tick (h : TwoT E T S) (hE : 1 ≤ E) (hg : 1 ≤ g ∧ g ≤ 60) (hT : T ≤ 1000000) : TickOK S g ∧ S.n = 2 ∧ (S.way.length + sumM S g 2 ≤ 1000 → TwoT E (T + g) (twS S g 2) ∧ twN S g 2 = []) := by
  have hge := seq_le (n := g) (E := E) (by omega) hE
  refine ⟨h.tok.tickOK (by omega) (by omega) (fun i hi => by show g / E < 64; omega), h.tok.sn, fun hw => ?_⟩
  obtain ⟨m1, m2⟩ := h.mute.tick (g := g) 2
  exact ⟨⟨h.tok.tick (by omega) (by omega) hw, m1, h.dead⟩, m2⟩
theorem TwoT.later (h : TwoT E T S) {T' : Int} (hT : T ≤ T') : TwoT E T' S := ⟨h.tok.later hT, h.mute, h.dead⟩
theorem TwoT.bring (h : TwoT E T S) {u j : Nat} {q : Int} (hu : u < 2) (hj : j < 2) (hq : 1 ≤ q ∧ q < 2147483648) (hs : q ≤ (S.nd j).seq) : TwoT E T (setN S u (hearF (S.nd u) (nmT j) q).1) :=
  ⟨h.tok.bring hu hj hq hs, h.mute.bring u j, h.dead⟩
theorem TwoT.lose (h : TwoT E T S) {L : List ByteArray} (hm : ∀ x, x ∈ L → x ∈ S.way) (hl : L.length ≤ S.way.length) : TwoT E T (wayN S L) := ⟨h.tok.lose hm hl, h.mute, h.dead⟩
end
end Go.Proofs.YtpomdnglknbanaaGreat
