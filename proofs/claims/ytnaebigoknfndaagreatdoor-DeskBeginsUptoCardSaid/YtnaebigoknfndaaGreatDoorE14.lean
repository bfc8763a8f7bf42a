/- What the desk's two laws lean on: part 14 (contracts and plain laws; their conditions stand in each). -/
import Derived.Test.YtnaebigoknfndaaGreatDoorE01
import Derived.Test.YtnaebigoknfndaaGreatDoorE13
import Derived.Maps.Own
import Derived.Maps.Views
import Derived.StringKeys
import Derived.DeepKeys4
import Derived.Test.YtnaebigoknfndaaGreatDoorE04
import Derived.Maps.OwnOps
import Derived.Deep.DeepCutAuto
set_option linter.unusedVariables false
set_option linter.unusedSimpArgs false
set_option maxRecDepth 100000
set_option maxHeartbeats 20000000
namespace Go.Proofs.YtnaebigoknfndaaGreatDoor
open Go Go.RowKit Go.Maps
open Go.WideMaps (keyOf_string_mk)
def MapB (k:TypeId) (w:World) (B n:Nat) (F:Value→Bool):Prop:=
 ∃ D:DataW Unit,w.ownsMap Tryz.prog k (plainElem Tryz.prog 4) B n D∧∀ key l,keyOf Tryz.prog k key=some l→D.atKey l (.lit (.bool false))=.lit (.bool (F key))
theorem MapB.made (k:TypeId) (w:World):MapB k (w.alloc (.map #[] 0)) w.heap.size 0 (fun _=>false):=
 ⟨.map [],World.ownsMap_made _ _ _ _,fun _ _ _=>rfl⟩
theorem MapB.same {k:TypeId} {w w':World} {B n:Nat} {F:Value→Bool} (h:MapB k w B n F) (hs:w'.heap[B]? = w.heap[B]?):MapB k w' B n F:=by
 obtain ⟨D,⟨es,clock,h1,h2⟩,h3⟩:=h
 exact ⟨D,⟨es,clock,hs.trans h1,h2⟩,h3⟩
theorem plain_bool {P:Program} {e:TypeId} (he:P.underlying e=some .bool) {v:Value} {z:DataW Unit×List MemPlace} (h:plainElem P e v=some z):∃ x,v=.bool x∧z=(.lit (.bool x),[]):=by
 unfold plainElem at h
 rw [he] at h
 cases v <;> simp at h
 rename_i x
 exact ⟨x,rfl,h.symm⟩
theorem MapB.look {k T:TypeId} {w:World} {B n:Nat} {F:Value→Bool} (h:MapB k w B n F) (K:Keyed Tryz.prog k) (ht:Tryz.prog.underlying T=some (.map k 4)) {key:Value} {l:Lit} (hkey:keyOf Tryz.prog k key=some l) :
  (Instr.lookup T (.map (some B)) key false).run Tryz.prog w=.ok (.bool (F key)) w:=by
 obtain ⟨D,h1,h2⟩:=h
 obtain ⟨v,ps,hrun,hv⟩:=h1.lookup K ht (Tryz.zeroValue4 w) (plainElem_bool Tryz.underlying4 false) hkey
 obtain ⟨x,rfl,hx⟩:=plain_bool Tryz.underlying4 hv
 simp only [Prod.mk.injEq] at hx
 have:=hx.1
 rw [h2 key l hkey] at this
 simp only [DataW.lit.injEq,Lit.bool.injEq] at this
 rw [this]
 exact hrun
open Classical in
theorem MapB.put {k T:TypeId} {w:World} {B n:Nat} {F:Value→Bool} (h:MapB k w B n F) (K:Keyed Tryz.prog k) (ht:Tryz.prog.underlying T=some (.map k 4)) (hn:n<maxLen) {key:Value} {l:Lit} (hkey:keyOf Tryz.prog k key=some l) (c:Bool) :
  ∃ w',(Instr.mapUpdate T (.map (some B)) key (.bool c)).run Tryz.prog w=.ok () w'∧MapB k w' B (n+1) (fun x=>if x=key then c else F x)∧w.grownBy w' (some B):=by
 obtain ⟨D,h1,h2⟩:=h
 obtain ⟨w',hrun,hown,hg⟩:=h1.update K ht hn hkey (plainElem_bool Tryz.underlying4 c)
 refine ⟨w',hrun,⟨_,hown,fun x lx hx=>?_⟩,hg⟩
 by_cases e:x=key
 ·subst e
  dsimp only
  rw [hkey] at hx
  cases hx
  rw [if_pos rfl,atKey_put_same h1.isMap (K.key hkey)]
 ·dsimp only
  rw [if_neg e,atKey_put_other (fun he=>e (by subst he;exact K.inj hx hkey))]
  exact h2 x lx hx
open Classical in
theorem wpList_mapB {k T:TypeId} {w:World} {ops:Array Oper} {rest:List Oper} {o:Oper} {a:Act} {Q:Exit→Act→World→Prop} (hg:o.guard=none) (m x v:Operand) (hop:o.op=Op.mapUpdate T m x v)
  {B n:Nat} {F:Value→Bool} (hm:a.eval m=.map (some B)) (h:MapB k w B n F) (K:Keyed Tryz.prog k) (ht:Tryz.prog.underlying T=some (.map k 4)) (hn:n<maxLen) (key:Value) (c:Bool) (hx:a.eval x=key) (hv:a.eval v=.bool c) {l:Lit} (hkey:keyOf Tryz.prog k key=some l)
  (hK:∀ w' F',F' key=c→(∀ x,x≠key→F' x=F x)→MapB k w' B (n+1) F'→w.grownBy w' (some B)→wpList Tryz.prog ops Q rest (a.put o.dst undef) w') :
  wpList Tryz.prog ops Q (o :: rest) a w:=by
 refine wpList_plain hg fun K' hK'=>?_
 obtain ⟨w',hrun,r1,r2⟩:=h.put K ht hn hkey c
 unfold Oper.wp
 simp [execOp,hop,hm,hx,hv,hrun,Result.andThen]
 exact hK' _ _ (hK w' _ (if_pos rfl) (fun x hx=>if_neg hx) r1 r2)
end Go.Proofs.YtnaebigoknfndaaGreatDoor
namespace Go.Proofs.YtnaebigoknfndaaGreatDoor
open Go Go.RowKit
structure Cfg where
 id:ByteArray
 every:Int
 cap:Int
 least:Int
def cfS (c:Cfg):NSt:=⟨c.id,0,c.every,c.cap,c.least,0,0,0,[],[]⟩
def wpP (C:Nat→Cfg) (j:Nat):Nat→List Peer
 | 0=>[]
 | k+1=>if k=j then wpP C j k else addS (newP (C k).id (C j).cap (C k).every 0) (wpP C j k)
theorem wpP_succ (C:Nat→Cfg) (j k:Nat):wpP C j (k+1)=if k=j then wpP C j k else addS (newP (C k).id (C j).cap (C k).every 0) (wpP C j k):=rfl
def wpS (C:Nat→Cfg) (j k:Nat):NSt:={ cfS (C j) with peers:=wpP C j k }
def stN (C:Nat→Cfg) (n i k:Nat):TSt:=⟨n,fun j=>if j<i then wpS C j n else if j=i then wpS C j k else wpS C j 0,fun _=>false,[]⟩
structure CfgOK (c:Cfg):Prop where
 id:IdOK (byts c.id)
 every:1≤c.every∧c.every≤16777216
 cap:1≤c.cap∧c.cap≤64
 least:1≤c.least∧c.least≤16777216
def cfC (c:Cfg):List Value:=[.string c.id,.int .i64 0,.int .i64 c.every,.int .i64 c.cap,.int .i64 c.least]
def cfgV (C:Nat→Cfg) (n:Nat):List Value:=(List.range n).flatMap fun j=>cfC (C j)
theorem cfgV_one (C:Nat→Cfg) (n:Nat):∀ u∈cfgV C n,u.oneCell'=true:=by
 intro u hu
 obtain ⟨j,_,hj⟩:=List.mem_flatMap.1 hu
 simp [cfC] at hj
 rcases hj with rfl | rfl | rfl | rfl | rfl <;> rfl
theorem cfgV_len (C:Nat→Cfg) (n:Nat):(cfgV C n).length=n * 5:=by
 induction n with
 | zero=>rfl
 | succ n ih=>
  unfold cfgV at ih ⊢
  rw [flat_succ,List.length_append,ih]
  simp [cfC];omega
theorem cfgV_get (C:Nat→Cfg) {n k i:Nat} (hk:k<n) (hi:i<5):(cfgV C n)[k * 5+i]? = (cfC (C k))[i]?:=by
 induction n with
 | zero=>omega
 | succ n ih=>
  have hl:=cfgV_len C n
  unfold cfgV at ih hl ⊢
  rw [flat_succ]
  rcases Nat.lt_or_ge k n with h | h
  ·rw [List.getElem?_append_left (by omega)]
   exact ih h
  ·obtain rfl:k=n:=by omega
   rw [List.getElem?_append_right (by omega),hl,show k * 5+i - k * 5=i by omega]
theorem info_cfg:(Tryz.prog.info? 106).map (fun i=>(i.zero,i.size,i.bytes))=some (some (.agg #[.string ⟨#[]⟩,.int .i64 0,.int .i64 0,.int .i64 0,.int .i64 0]),5,48):=by kernel_rfl
theorem info_cfgs:Tryz.prog.underlying 35=some (.slice 106):=by kernel_rfl
theorem info_ptr:(Tryz.prog.info? 149).map (fun i=>(i.zero,i.size,i.bytes))=some (some (.pointer none),1,8):=by kernel_rfl
theorem info_bool:(Tryz.prog.info? 4).map (fun i=>(i.zero,i.size,i.bytes))=some (some (.bool false),1,1):=by kernel_rfl
theorem cfg_at {w:World} {base n c:Nat} {A:Option Addr} {C:Nat→Cfg} (h:w.ownsRow base 106 5 (.slice A n c) n (cfgV C n)) {k:Nat} (hk:k<n):∃ g,A=some ⟨g,0,none⟩∧g<w.heap.size∧base≤g∧∀ i,i<5→w.cell? ⟨g,k * 5+i,none⟩=(cfC (C k))[i]?:=by
 have h4:=h
 rcases h.2 with ⟨_,h0⟩ | ⟨g,c',cur,he,hbg,hg,_⟩
 ·omega
 simp only [Value.slice.injEq] at he
 obtain ⟨rfl,_,rfl⟩:=he
 refine ⟨g,rfl,(Array.getElem?_eq_some_iff.1 hg).1,hbg,fun i hi=>?_⟩
 have hs:=cfgV_get C hk hi
 have hi':i<(cfC (C k)).length:=by simpa [cfC] using hi
 have:=h4.cells (g:=g) rfl (k * 5+i) ((cfC (C k))[i]) (by rw [hs,List.getElem?_eq_getElem hi'])
 rw [Go.WideShapes.add_plain,Nat.zero_add] at this
 rw [this,List.getElem?_eq_getElem hi']
theorem cloneC_ok (A:Option Addr) (n c base:Nat) (C:Nat→Cfg) (w:World) (own:w.ownsRow base 106 5 (.slice A n c) n (cfgV C n)) (hn:n≤1000) :
  Calls Tryz.prog 117 #[.slice A n c] w fun e w'=>∃ A' c',e=.returned (.slice A' n c')∧w'.ownsRow w.heap.size 106 5 (.slice A' n c') n (cfgV C n)∧Below w.heap.size w w':=by
 have hq:=fun (w:World)=>Lib.run_eql_slice_nil (P:=Tryz.prog) w 35 106 A n c 0 0 info_cfgs
 have hxl:=own.1
 rcases own_base0 own with ⟨rfl,rfl⟩ | ⟨g,rfl⟩
 ·have h0:cfgV C 0 = []:=List.eq_nil_of_length_eq_zero (by rw [hxl])
  rw [h0]
  clear own h0 hxl
  simp only [Option.isNone] at hq
  go_enter Tryz.func117,Tryz.ntmps117
  go_wp2_with fail
  go_ret
  exact ⟨_,_,rfl,World.ownsRow_nil _ _ _ _,Below.refl _ _⟩
 ·simp only [Option.isNone] at hq
  obtain ⟨i0,hi,hz0,hz1,hz2⟩:=info_parts info_cfg
  have hca:∀ j u,(cfgV C n)[j]? = some u→w.cell? ((⟨g,0,none⟩:Addr).add j)=some u:=fun j u hu=>own.cells (g:=g) rfl j u hu
  have hgl:=(own.lt g rfl).2
  have HCa:=Lib.hid (fun (o:Obj) j u (hu:(cfgV C n)[j]? = some u)=>((World.cell?_alloc_lt w o ((⟨g,0,none⟩:Addr).add j) (by rw [Go.WideShapes.add_plain];exact hgl)).trans (hca j u hu)))
  have HLen:=Lib.hid hxl
  clear own hca hxl
  go_enter Tryz.func117,Tryz.ntmps117
  go_wp2_with (at_builtin;refine wpList_append_own _ rfl _ _ 35 rfl w.heap.size 106 i0 _ 5 48 info_cfgs hi hz0 hz1 hz2 rfl (by decide) _ _ _ rfl (World.ownsRow_made w #[] 0 (Nat.le_refl _) (Nat.zero_le _) rfl) ⟨g,0,none⟩ n c (cfgV C n) rfl HLen.out (HCa.out _) (cfgV_one C n) (by unfold maxLen;omega) (by omega) (by simp) ?_)
  intro v1 w1 own1 gr1 _
  obtain ⟨A1,c1,rfl,q1,q2,q3⟩:=own_form own1
  have bel:=((Below.refl w.heap.size w).alloc (Nat.le_refl _) (.cells #[] 106)).grown gr1 (by simp) (fun g hg=>by simp [Value.ownBlock] at hg;omega)
  have own2:w1.ownsRow w.heap.size 106 5 (.slice A1 n c1) n (cfgV C n):=by simpa using own1
  have HO:=Lib.hid own2
  clear own1 gr1 own2
  go_wp2_with fail
  go_ret
  exact ⟨A1,c1,by simp,HO.out,bel⟩
theorem wp_make_full {P:Program} {w:World} {o:Oper} {a:Act} {K:Act→World→Prop} {Q:Exit→Act→World→Prop} (l c:Operand) (t:TypeId) (hop:o.op=Op.makeSlice t l c)
  (base:Nat) (e:TypeId) (i:TypeInfo) (z:Value) (size:Nat) (h1:P.underlying t=some (.slice e)) (h2:P.info? e=some i) (h3:i.zero=some z) (h4:i.size=size)
  (n:Nat) (hl:a.eval l=.int .i64 (n:Int)) (hc:a.eval c=.int .i64 (n:Int)) (b2:i.bytes * n≤281474976710656) (b3:n≤maxLen) (b4:base≤w.heap.size)
  (hK:∀ w',w'.ownsRow base e size (.slice (some ⟨w.heap.size,0,none⟩) n n) n (madeCells z.cells (n * size)).toList→w.grownBy w' none→K (a.put o.dst (.slice (some ⟨w.heap.size,0,none⟩) n n)) w'):o.wp P a w K Q:=by
 obtain ⟨w',hrun,r1,r2⟩:=run_make_full (P:=P) w base t e i z size h1 h2 h3 h4 .i64 .i64 n b2 b3 b4
 unfold Oper.wp
 simp [execOp,hop,hl,hc,hrun,Result.andThen]
 exact hK w' r1 r2
theorem grownN_below {w w':World} (h:w.grownBy w' none):Below w.heap.size w w':=⟨h.os,h.tape,h.output,h.size,fun x hx=>h.block x hx (by simp)⟩
theorem wpP_mem {C:Nat→Cfg} {j:Nat} {p:Peer}:∀ {k},p∈wpP C j k→∃ i,i<k∧i≠j∧p.id=(C i).id
 | 0,h=>by cases h
 | k+1,h=>by
   unfold wpP at h
   split at h
   ·obtain ⟨i,h1,h2⟩:=wpP_mem h
    exact ⟨i,by omega,h2⟩
   ·rename_i hk
    rcases addS_mem.1 h with rfl | h
    ·exact ⟨k,by omega,hk,rfl⟩
    ·obtain ⟨i,h1,h2⟩:=wpP_mem h
     exact ⟨i,by omega,h2⟩
theorem wpP_len {C:Nat→Cfg} {j:Nat}:∀ k,(wpP C j k).length≤k
 | 0=>by simp [wpP]
 | k+1=>by
   have ih:=wpP_len (C:=C) (j:=j) k
   unfold wpP
   split
   ·omega
   ·rw [addS_len];omega
theorem wpS_ok {C:Nat→Cfg} {n j:Nat} (hn:n≤5) (hC:∀ j,j<n→CfgOK (C j)) (hne:∀ i j,i<n→j<n→(C i).id=(C j).id→i=j) (hj:j<n):∀ k,k≤n→NOK (wpS C j k)∧(k<n→has (wpP C j k) (C k).id=false)
 | 0,_=>by
   have c:=hC j hj
   refine ⟨show NOK ⟨(C j).id,0,(C j).every,(C j).cap,(C j).least,0,0,0,[],[]⟩ from NOK.new c.id (by omega) c.every c.cap c.least,fun _=>?_⟩
   exact has_not (fun q hq=>by cases hq)
 | k+1,hk=>by
   obtain ⟨ih,ih2⟩:=wpS_ok hn hC hne hj k (by omega)
   have h1:NOK (wpS C j (k+1)):=by
    by_cases e:k=j
    ·have:wpS C j (k+1)=wpS C j k:=by
      show { cfS (C j) with peers:=wpP C j (k+1) } = { cfS (C j) with peers:=wpP C j k }
      rw [wpP_succ,if_pos e]
     rw [this];exact ih
    ·have:wpS C j (k+1) = { wpS C j k with peers:=addS (newP (C k).id (wpS C j k).cap (C k).every (wpS C j k).now) (wpS C j k).peers }:=by
      show { cfS (C j) with peers:=wpP C j (k+1) }=_
      rw [wpP_succ,if_neg e]
      rfl
     rw [this]
     have c:=hC k (by omega)
     have hl:=wpP_len (C:=C) (j:=j) k
     exact ih.add c.id (by have:=c.every;omega) (ih2 (by omega)) (by show (wpP C j k).length<6;omega)
   refine ⟨h1,fun h=>?_⟩
   cases hc:has (wpP C j (k+1)) (C (k+1)).id with
   | false=>rfl
   | true=>
    obtain ⟨p,hp,e⟩:=(has_iff h1.tab.order _).1 hc
    obtain ⟨i,hi1,hi2,he⟩:=wpP_mem hp
    have:=hne i (k+1) (by omega) h (he.symm.trans e)
    omega
theorem stN_next (C:Nat→Cfg) (n i:Nat):stN C n i n=stN C n (i+1) 0:=by
 unfold stN
 congr 1
 funext j
 by_cases h1:j<i
 ·rw [if_pos h1,if_pos (by omega)]
 ·rw [if_neg h1]
  by_cases h2:j=i
  ·rw [if_pos h2,if_pos (by omega)]
  ·rw [if_neg h2,if_neg (by omega)]
   by_cases h3:j=i+1
   ·rw [if_pos h3]
   ·rw [if_neg h3]
theorem stN_same (C:Nat→Cfg) (n i:Nat):stN C n i (i+1)=stN C n i i:=by
 unfold stN
 congr 1
 funext j
 by_cases h1:j<i
 ·rw [if_pos h1,if_pos h1]
 ·rw [if_neg h1,if_neg h1]
  by_cases h2:j=i
  ·rw [if_pos h2,if_pos h2]
   subst h2
   show { cfS (C j) with peers:=wpP C j (j+1) } = { cfS (C j) with peers:=wpP C j j }
   rw [wpP_succ,if_pos rfl]
  ·rw [if_neg h2,if_neg h2]
theorem stN_set (C:Nat→Cfg) (n i k:Nat):setN (stN C n i k) i (wpS C i (k+1))=stN C n i (k+1):=by
 unfold stN setN
 congr 1
 funext j
 by_cases h2:j=i
 ·subst h2
  rw [if_pos rfl,if_neg (by omega),if_pos rfl]
 ·rw [if_neg h2]
  show (if j<i then wpS C j n else if j=i then wpS C j k else wpS C j 0)=_
  by_cases h1:j<i
  ·rw [if_pos h1,if_pos h1]
  ·rw [if_neg h1,if_neg h1,if_neg h2,if_neg h2]
theorem stN_at (C:Nat→Cfg) (n i k:Nat):(stN C n i k).nd i=wpS C i k:=by
 unfold stN
 show (if i<i then _ else if i=i then _ else _)=_
 rw [if_neg (by omega),if_pos rfl]
theorem str_lawB:Maps.Keyed Tryz.prog 9:=Maps.string_keyed Tryz.underlying9
open Classical in
noncomputable def colN (t ga gd gn n:Nat) (bs:Nat→Nat) (x:Nat):Nat:=if x=t then 0 else if x=ga then 1 else if x=gd then 3 else if x=gn then 2 else if h:∃ j,j<n∧bs j=x then h.choose+5 else 4
theorem made_get (n i:Nat) (hi:i<n):(madeCells (Value.bool false).cells (n * 1)).toList[i]? = some (.bool false):=by
 simp [madeCells,Value.cells,hi,Nat.mod_one]
theorem town_set1 {w:World} {t:Nat} {v0 v1 v2 v3:Value} {T:TypeId} (h:w.heap[t]? = some (.cells #[v0,v1,v2,v3] T (0,0))) (v:Value):(w.setCell ⟨t,1,none⟩ v).heap[t]? = some (.cells #[v0,v,v2,v3] T (0,0)):=by
 simp [World.setCell,Array.getElem?_modify,h]
theorem heap_alloc_new' (w:World) (o:Obj):(w.alloc o).heap[w.heap.size]? = some o:=by
 show (w.heap.push o)[w.heap.size]? = some o
 simp
theorem tnew_ok (n cl base:Nat) (A:Option Addr) (C:Nat→Cfg) (w:World) (own:w.ownsRow base 106 5 (.slice A n cl) n (cfgV C n)) (hn:1≤n∧n≤5) (hC:∀ j,j<n→CfgOK (C j)) (hne:∀ i j,i<n→j<n→(C i).id=(C j).id→i=j) :
  Calls Tryz.prog 76 #[.slice A n cl] w fun e w'=>∃ t f,e=.returned (.tuple #[.pointer (some ⟨t,0,none⟩),.int .i64 0])∧TRep w' t (stN C n n 0) f∧(∀ x,f x→w.heap.size≤x)∧Below w.heap.size w w':=by
 have HC:=Lib.hid (fun w' (o:w'.ownsRow base 106 5 (.slice A n cl) n (cfgV C n))=>cloneC_ok A n cl base C w' o (by omega))
 have HO:=Lib.hid own
 obtain ⟨ib,hib,hb0,hb1',hb2⟩:=info_parts info_bool
 have hmm:=@run_makeMap Tryz.prog
 obtain ⟨ip,hip,hp0,hp1,hp2⟩:=info_parts info_ptr
 have n5:¬ (5:Int)<n:=by omega
 clear own
 go_enter Tryz.func76,Tryz.ntmps76
 go_upto_region 3 with fail
 go_cut [4] (fun v wc=>∃ (t ga gd ca:Nat),v=.pointer (some ⟨t,0,none⟩)∧wc.heap[t]? = some (.cells #[.slice (some ⟨ga,0,none⟩) n ca,.slice none 0 0,.slice (some ⟨gd,0,none⟩) n n,.slice none 0 0] 147 (0,0)) ∧
  wc.ownsRow w.heap.size 106 5 (.slice (some ⟨ga,0,none⟩) n ca) n (cfgV C n)∧wc.ownsRow w.heap.size 4 1 (.slice (some ⟨gd,0,none⟩) n n) n (madeCells (Value.bool false).cells (n * 1)).toList∧ga≠gd∧ga≠t∧gd≠t∧w.heap.size≤t∧Below w.heap.size w wc)
 case first=>
  have kk:(fun _:World=>True) w.drew:=trivial
  refine wp_region_M (fun _=>True) (fun _=>false) 8 rfl (by kernel_rfl) ?_
  (refine wpAnyM_tk (i:=0) (v:=?_) rfl (Or.inl ⟨by rfl,?_⟩) kk ?_;(rotate_left;(intro w hSw;(try dsimp only at hSw);go_simp;try with_reducible rfl));(try simp only [Act.put,List.setIfInBounds_toArray,List.set_cons_zero,List.set_cons_succ]))
  (refine wpAnyM_tk (i:=2) (v:=?_) rfl (Or.inl ⟨by rfl,?_⟩) kk ?_;(rotate_left;(intro w hSw;(try dsimp only at hSw);go_simp;try with_reducible rfl));(try simp only [Act.put,List.setIfInBounds_toArray,List.set_cons_zero,List.set_cons_succ]))
  (refine wpAnyM_tk (i:=3) (v:=?_) rfl (Or.inl ⟨by rfl,?_⟩) kk ?_;(rotate_left;(intro w hSw;(try dsimp only at hSw);go_simp;try with_reducible rfl));(try simp only [Act.put,List.setIfInBounds_toArray,List.set_cons_zero,List.set_cons_succ]))
  refine wpAnyM_two (i:=1) (j:=4) (by kernel_rfl) rfl rfl (fun K hK=>?_) (fun K hK=>?_)
  ·go_simp
   refine (HC.out w.drew HO.out).mono ?_
   rintro e w1 ⟨A1,c1,rfl,own1,hb1⟩
   have hbw:Below w.heap.size w w1:=(Below.drew (Below.refl _ w)).trans hb1
   have z1:w.heap.size≤w1.heap.size:=hbw.size
   obtain ⟨g1,rfl⟩:∃ g,A1=some ⟨g,0,none⟩:=by obtain ⟨g,h,_⟩:=cfg_at own1 (show 0<n by omega);exact ⟨g,h⟩
   have lg1:g1<w1.heap.size∧w.heap.size≤g1:=⟨(own1.lt g1 rfl).2,(own1.lt g1 rfl).1⟩
   go_simp
   refine hK _ _ (fun _=>trivial) ?_
   clear hK K
   refine wpAnyM_one (i:=4) (by kernel_rfl) rfl (fun K hK=>?_)
   refine wp_make_full _ _ 144 rfl w.heap.size 4 ib (.bool false) 1 Tryz.underlying144 hib hb0 hb1' n (by simp [Act.eval,Act.put]) (by simp [Act.eval,Act.put]) (by rw [hb2];omega) (by unfold maxLen;omega) z1 ?_
   intro w2 own2 gr2
   have hb2':=grownN_below gr2
   have z2:=hb2'.size
   have lg2:=(own2.lt _ rfl).2
   have O1:=own_below own1 hb2'
   refine hK _ _ (fun _=>trivial) ?_
   clear hK K
   have k2:(fun _:World=>True) w2:=trivial
   (refine wpAnyM_tk (i:=5) (v:=?_) rfl (Or.inl ⟨by rfl,?_⟩) k2 ?_;(rotate_left;(intro w hSw;(try dsimp only at hSw);go_simp;try with_reducible rfl));(try simp only [Act.put,List.setIfInBounds_toArray,List.set_cons_zero,List.set_cons_succ]))
   refine wpAnyM_one (i:=6) (by kernel_rfl) rfl (fun K hK=>?_)
   go_simp
   refine hK _ _ (fun _=>trivial) ?_
   clear hK K
   have k3:(fun _:World=>True) (w2.alloc (.cells #[.slice (some ⟨g1,0,none⟩) n c1,.slice none 0 0,.slice (some ⟨w1.heap.size,0,none⟩) n n,.slice none 0 0] 147)):=trivial
   (refine wpAnyM_tk (i:=7) (v:=?_) rfl (Or.inl ⟨by rfl,?_⟩) k3 ?_;(rotate_left;(intro w hSw;(try dsimp only at hSw);go_simp;try with_reducible rfl));(try simp only [Act.put,List.setIfInBounds_toArray,List.set_cons_zero,List.set_cons_succ]))
   refine wpAnyM_done (by kernel_rfl) ?_ _
   go_simp
   go_wp2_with fail
   go_meet
   case rel=>exact ⟨w2.heap.size,g1,w1.heap.size,c1,rfl,heap_alloc_new' _ _,O1.alloc _,own2.alloc _,by omega,by omega,by omega,by omega,(hbw.trans (hb2'.mono z1)).alloc (by omega) _⟩
  ·refine wp_make_full _ _ 144 rfl w.heap.size 4 ib (.bool false) 1 Tryz.underlying144 hib hb0 hb1' n (by simp [Act.eval,Act.put]) (by simp [Act.eval,Act.put]) (by rw [hb2];omega) (by unfold maxLen;omega) (Nat.le_refl _) ?_
   intro w1 own1 gr1
   have hb1':=grownN_below gr1
   have hbw:Below w.heap.size w w1:=(Below.drew (Below.refl _ w)).trans hb1'
   have z1:w.heap.size≤w1.heap.size:=hbw.size
   have lg1:w.heap.size<w1.heap.size:=(own1.lt _ rfl).2
   refine hK _ _ (fun _=>trivial) ?_
   clear hK K
   refine wpAnyM_one (i:=1) (by kernel_rfl) rfl (fun K hK=>?_)
   go_simp
   refine (HC.out w1 (own_below HO.out hbw)).mono ?_
   rintro e w2 ⟨A2,c2,rfl,own2,hb2⟩
   have z2:=hb2.size
   obtain ⟨g2,rfl⟩:∃ g,A2=some ⟨g,0,none⟩:=by obtain ⟨g,h,_⟩:=cfg_at own2 (show 0<n by omega);exact ⟨g,h⟩
   have lg2:g2<w2.heap.size∧w1.heap.size≤g2:=⟨(own2.lt g2 rfl).2,(own2.lt g2 rfl).1⟩
   have O1:=own_below own1 hb2
   have O2:=own_mono own2 z1
   go_simp
   refine hK _ _ (fun _=>trivial) ?_
   clear hK K
   have k2:(fun _:World=>True) w2:=trivial
   (refine wpAnyM_tk (i:=5) (v:=?_) rfl (Or.inl ⟨by rfl,?_⟩) k2 ?_;(rotate_left;(intro w hSw;(try dsimp only at hSw);go_simp;try with_reducible rfl));(try simp only [Act.put,List.setIfInBounds_toArray,List.set_cons_zero,List.set_cons_succ]))
   refine wpAnyM_one (i:=6) (by kernel_rfl) rfl (fun K hK=>?_)
   go_simp
   refine hK _ _ (fun _=>trivial) ?_
   clear hK K
   have k3:(fun _:World=>True) (w2.alloc (.cells #[.slice (some ⟨g2,0,none⟩) n c2,.slice none 0 0,.slice (some ⟨w.heap.size,0,none⟩) n n,.slice none 0 0] 147)):=trivial
   (refine wpAnyM_tk (i:=7) (v:=?_) rfl (Or.inl ⟨by rfl,?_⟩) k3 ?_;(rotate_left;(intro w hSw;(try dsimp only at hSw);go_simp;try with_reducible rfl));(try simp only [Act.put,List.setIfInBounds_toArray,List.set_cons_zero,List.set_cons_succ]))
   refine wpAnyM_done (by kernel_rfl) ?_ _
   go_simp
   go_wp2_with fail
   go_meet
   case rel=>exact ⟨w2.heap.size,g2,w.heap.size,c2,rfl,heap_alloc_new' _ _,O2.alloc _,O1.alloc _,by omega,by omega,by omega,by omega,(hbw.trans (hb2.mono z1)).alloc (by omega) _⟩
 case rest=>
  obtain ⟨t,ga,gd,ca,rfl,ht,ho1,ho2,ne1,ne2,ne3,htw,bel⟩:=hcut
  have tl:t<wc.heap.size:=(Array.getElem?_eq_some_iff.1 ht).1
  have gal:=ho1.lt ga rfl
  have gdl:=ho2.lt gd rfl
  have ab:Below wc.heap.size wc (wc.alloc (.map #[] 0)):=(Below.refl _ _).alloc (Nat.le_refl _) _
  have M0:=Lib.hid (MapB.made 9 wc)
  have T5:=Lib.hid ((ab.block t tl).trans ht)
  have OA:=Lib.hid (own_below ho1 ab)
  have OD:=Lib.hid (own_below ho2 ab)
  have B5:=Lib.hid (bel.trans (ab.mono bel.size))
  obtain ⟨B,hB⟩:∃ B,wc.heap.size=B:=⟨_,rfl⟩
  have hBw:w.heap.size≤B:=by rw [← hB];exact bel.size
  have z5:(wc.alloc (.map #[] 0)).heap.size=B+1:=by simp [hB]
  rw [hB] at M0 tl gal gdl
  clear ht ho1 ho2 bel ab
  go_wp2_with fail
  clear hB
  generalize wc.alloc (.map #[] 0)=w5 at M0 T5 OA OD B5 z5 ⊢
  have z5':w.heap.size≤w5.heap.size∧t<w5.heap.size∧B<w5.heap.size:=by omega
  have tB:t≠B:=by omega
  clear z5
  go_loopw [27] (fun i wr=>∃ (k m:Nat) (nv:Value) (bs:Nat→Nat) (F:Value→Bool),k≤n∧i=.int .i64 k∧wr.heap[t]? = some (.cells #[.slice (some ⟨ga,0,none⟩) n ca,nv,.slice (some ⟨gd,0,none⟩) n n,.slice none 0 0] 147 (0,0)) ∧
   wr.ownsRow w.heap.size 149 1 nv k ((List.range k).map fun j=>.pointer (some ⟨bs j,0,none⟩))∧(∀ j,j<k→NodeAt wr (bs j) (C j).id 0 (C j).every (C j).cap (C j).least 0 0 0 (.slice none 0 0) (.slice none 0 0)∧w5.heap.size≤bs j)∧(∀ i j,i<k→j<k→bs i=bs j→i=j) ∧
   MapB 9 wr B m F∧m≤k∧(∀ i,k≤i→i<n→F (.string (C i).id)=false)∧(∀ q,nv.ownBlock=some q→w5.heap.size≤q∧∀ j,j<k→bs j≠q)∧Kept (fun x=>x=t∨x=B) w5 wr) (fun i _=>n - (intOf i).toNat)
  case atStart=>exact ⟨0,0,.slice none 0 0,fun _=>0,_,Nat.zero_le _,rfl,T5.out,World.ownsRow_nil _ _ _ _,fun j hj=>absurd hj (by omega),fun i j hi=>absurd hi (by omega),M0.out,Nat.le_refl _,fun _ _ _=>rfl,fun q hq=>by simp [Value.ownBlock] at hq,Kept.refl _ _⟩
  case round=>
   obtain ⟨k,m,nv,bs,F,hk,rfl,ht,hown,hnd,hinj,hM,hm,hF,hnv,hkept⟩:=hrel
   have sz0:=hkept.size
   by_cases hlt:k<n
   ·obtain ⟨gl,rfl,gll,_,hcf⟩:=cfg_at HO.out hlt
    have hcell:∀ i,i<5→wr.cell? ⟨gl,k * 5+i,none⟩=(cfC (C k))[i]?:=fun i hi=>by
     rw [← hcf i hi,World.cell?_of_block (a:=⟨gl,k * 5+i,none⟩) (hkept.block gl (by omega) (fun h=>by omega)),World.cell?_of_block (a:=⟨gl,k * 5+i,none⟩) (B5.out.block gl gll)]
    have ok:=hC k hlt
    obtain ⟨cf,hcfe⟩:∃ c,C k=c:=⟨_,rfl⟩
    rw [hcfe] at hcell ok
    have HNew:=Lib.hid (fun w'=>new_ok cf.id 0 cf.every cf.cap cf.least w' ok.id (by omega) ok.every ok.cap ok.least)
    have hFk:=hF k (Nat.le_refl _) hlt
    rw [hcfe] at hFk
    have hidz:cf.id.size≤maxLen:=by have:=ok.id.2.1;rw [byts_len] at this;unfold maxLen;omega
    obtain ⟨lk,hlk⟩:∃ l,keyOf Tryz.prog 9 (.string cf.id)=some l:=⟨_,Go.WideMaps.keyOf_string_mk Tryz.underlying9 hidz⟩
    obtain ⟨q0,h0⟩:∃ x,cf.id=x:=⟨_,rfl⟩
    obtain ⟨q2,h2⟩:∃ x,cf.every=x:=⟨_,rfl⟩
    obtain ⟨q3,h3⟩:∃ x,cf.cap=x:=⟨_,rfl⟩
    obtain ⟨q4,h4⟩:∃ x,cf.least=x:=⟨_,rfl⟩
    have c0:wr.cell? ⟨gl,k * 5,none⟩=some (.string q0):=by rw [← h0];exact hcell 0 (by omega)
    have c1:wr.cell? ⟨gl,k * 5+1,none⟩=some (.int .i64 0):=hcell 1 (by omega)
    have c2:wr.cell? ⟨gl,k * 5+2,none⟩=some (.int .i64 q2):=by rw [← h2];exact hcell 2 (by omega)
    have c3:wr.cell? ⟨gl,k * 5+3,none⟩=some (.int .i64 q3):=by rw [← h3];exact hcell 3 (by omega)
    have c4:wr.cell? ⟨gl,k * 5+4,none⟩=some (.int .i64 q4):=by rw [← h4];exact hcell 4 (by omega)
    rw [h0,h2,h3,h4] at HNew
    rw [h0] at hlk hFk
    have kw:IntKind.i64.wrap ((k:Int)+1)=(k:Int)+1:=IntWalk.i64_in _ (by omega)
    have hkn:(k:Int)<n:=by omega
    have HQ:=Lib.hid (And.intro hcfe (And.intro h0 (And.intro h2 (And.intro h3 h4))))
    have HT:=Lib.hid ht
    have HOw:=Lib.hid hown
    have HNd:=Lib.hid hnd
    have HInj:=Lib.hid hinj
    have HM:=Lib.hid hM
    have HF:=Lib.hid hF
    have HNv:=Lib.hid hnv
    have HK:=Lib.hid hkept
    have HLk:=Lib.hid (And.intro hlk hFk)
    have qa:=alloc_cells
    have qf:=alloc_frozens
    clear hcf hcell ok hcfe h0 h2 h3 h4 ht hown hnd hinj hM hF hnv hkept hlk hFk hidz
    go_upto_region 8 with fail
    have ab:Below wr.heap.size wr (wr.alloc (.cells #[.string q0,.int .i64 0,.int .i64 q2,.int .i64 q3,.int .i64 q4] 106)):=(Below.refl _ _).alloc (Nat.le_refl _) _
    have x0:(wr.alloc (.cells #[.string q0,.int .i64 0,.int .i64 q2,.int .i64 q3,.int .i64 q4] 106)).cell? ⟨wr.heap.size,0,none⟩=some (.string q0):=by simp [qa]
    have x1:(wr.alloc (.cells #[.string q0,.int .i64 0,.int .i64 q2,.int .i64 q3,.int .i64 q4] 106)).cell? ⟨wr.heap.size,1,none⟩=some (.int .i64 0):=by simp [qa]
    have x2:(wr.alloc (.cells #[.string q0,.int .i64 0,.int .i64 q2,.int .i64 q3,.int .i64 q4] 106)).cell? ⟨wr.heap.size,2,none⟩=some (.int .i64 q2):=by simp [qa]
    have x3:(wr.alloc (.cells #[.string q0,.int .i64 0,.int .i64 q2,.int .i64 q3,.int .i64 q4] 106)).cell? ⟨wr.heap.size,3,none⟩=some (.int .i64 q3):=by simp [qa]
    have x4:(wr.alloc (.cells #[.string q0,.int .i64 0,.int .i64 q2,.int .i64 q3,.int .i64 q4] 106)).cell? ⟨wr.heap.size,4,none⟩=some (.int .i64 q4):=by simp [qa]
    have zx:wr.heap.size<(wr.alloc (.cells #[.string q0,.int .i64 0,.int .i64 q2,.int .i64 q3,.int .i64 q4] 106)).heap.size:=by simp
    have AB:=Lib.hid ab
    generalize wr.alloc (.cells #[.string q0,.int .i64 0,.int .i64 q2,.int .i64 q3,.int .i64 q4] 106)=w6 at AB x0 x1 x2 x3 x4 zx ⊢
    obtain ⟨bx,hbx⟩:∃ x,wr.heap.size=x:=⟨_,rfl⟩
    have HBx:=Lib.hid hbx
    rw [hbx] at x0 x1 x2 x3 x4 zx ⊢
    clear ab hbx c0 c1 c2 c3 c4
    go_wp2_with fail
    refine (HNew.out w6).mono ?_
    rintro e w7 ⟨b,rfl,bb,nd7,hb7⟩
    have x7:=(hb7.cell (p:=⟨bx,0,none⟩) zx).trans x0
    have z7:=hb7.size
    have ab7:=AB.out.trans (hb7.mono AB.out.size)
    have AB7:=Lib.hid ab7
    have M7:=Lib.hid (HM.out.same (ab7.block B (by omega)))
    have hrun:=M7.out.look Go.Proofs.YtnaebigoknfndaaGreatDoor.str_lawB Tryz.underlying148 HLk.out.1
    rw [HLk.out.2] at hrun
    have HNd7:=Lib.hid nd7
    have bl7:=nd7.lt
    clear x0 x1 x2 x3 x4 nd7 hb7 ab7
    go_wp2_with (at_mapUpdate;refine wpList_mapB rfl _ _ _ rfl rfl M7.out Go.Proofs.YtnaebigoknfndaaGreatDoor.str_lawB Tryz.underlying148 (by unfold maxLen;omega) (.string q0) true rfl rfl HLk.out.1 ?_)
    intro w8 F8 hs8 hf8 hM8 hg8
    have z8:=hg8.size
    have HM8:=Lib.hid hM8
    have HF8:=Lib.hid (And.intro hs8 hf8)
    have HG8:=Lib.hid hg8
    have tcell:w8.heap[t]? = some (.cells #[.slice (some ⟨ga,0,none⟩) n ca,nv,.slice (some ⟨gd,0,none⟩) n n,.slice none 0 0] 147 (0,0)):=(hg8.block t (by have:=AB7.out.size;omega) (fun e=>tB (by simpa using e))).trans ((AB7.out.block t (by omega)).trans HT.out)
    have t1:w8.cell? ⟨t,1,none⟩=some nv:=by rw [cell_of_row _ _ _ _ _ _ tcell];rfl
    have tf:∀ o,w8.frozen? ⟨t,o,none⟩=false:=(block_cells tcell).2
    have TC:=Lib.hid tcell
    have nvB:∀ q,nv.ownBlock=some q→q≠B∧q≠t:=fun q hq=>by have:=(HNv.out q hq).1;omega
    have O8:=Lib.hid (own_same (f:=fun x=>x≠B) (own_below HOw.out AB7.out) (fun q hq=>(nvB q hq).1) ⟨z8,fun x hx hne=>HG8.out.block x hx (fun e=>hne (by simpa using e))⟩)
    have zz:wr.heap.size≤w8.heap.size:=by have:=AB7.out.size;omega
    clear hs8 hf8 hM8 hg8 hrun x7 tcell
    go_wp2_with (at_builtin;refine wpList_append_own_at _ rfl _ _ 145 rfl w.heap.size 149 ip (.pointer none) 1 8 Tryz.underlying145 hip hp0 hp1 hp2 rfl (by decide) _ k _ rfl (O8.out.alloc _) ⟨w8.heap.size,0,none⟩ 1 1 [.pointer (some ⟨b,0,none⟩)] rfl rfl (cell_one_new _ _ _) (by intro u hu;simp at hu;subst hu;rfl) (by unfold maxLen;omega) (by omega) (by simp;omega) ?_)
    intro v9 w9 own9 gr9 hxx loc9
    clear hxx
    obtain ⟨A9,c9,rfl,_,_,_⟩:=own_form own9
    have z9:=gr9.size
    simp only [World.size_alloc] at z9
    have oth:∀ x,x<w8.heap.size→some x≠nv.ownBlock→w9.heap[x]? = w8.heap[x]?:=fun x hx hne=>(gr9.block x (by simp;omega) hne).trans (Below.heap_alloc w8 _ x hx)
    have tno:some t≠nv.ownBlock:=fun e=>(nvB t e.symm).2 rfl
    have e9:w9.heap[t]? = some (.cells #[.slice (some ⟨ga,0,none⟩) n ca,nv,.slice (some ⟨gd,0,none⟩) n n,.slice none 0 0] 147 (0,0)):=(oth t (by omega) tno).trans TC.out
    have y1:w9.cell? ⟨t,1,none⟩=some nv:=by rw [cell_of_row _ _ _ _ _ _ e9];rfl
    have yf:∀ o,w9.frozen? ⟨t,o,none⟩=false:=(block_cells e9).2
    have HO9:=Lib.hid own9
    have HL9:=Lib.hid loc9
    have HOth:=Lib.hid oth
    have HE9:=Lib.hid e9
    have HG9:=Lib.hid gr9
    clear own9 loc9 oth e9 gr9
    go_wp2_with fail
    have hno9:∀ q,(Value.slice A9 (k+1) c9).ownBlock=some q→w5.heap.size≤q∧(nv.ownBlock=some q∨w8.heap.size<q)∧q<w9.heap.size:=fun q hq=>by
     have lt9:=(HO9.out.lt q hq).2
     rcases HL9.out with h | h
     ·rw [hq] at h
      exact ⟨(HNv.out q h.symm).1,.inl h.symm,lt9⟩
     ·rw [hq] at h
      simp only [Option.some.injEq,World.size_alloc] at h
      exact ⟨by omega,.inr (by omega),lt9⟩
    have t9:∀ q,(Value.slice A9 (k+1) c9).ownBlock=some q→q≠t:=fun q hq=>by have:=(hno9 q hq).1;omega
    have keep:∀ x,x<w8.heap.size→some x≠nv.ownBlock→x≠t→(w9.setCell ⟨t,1,none⟩ (.slice A9 (k+1) c9)).heap[x]? = w8.heap[x]?:=fun x hx h1 h2=>(Below.heap_setCell _ _ _ _ (fun e=>h2 e)).trans (HOth.out x hx h1)
    have keepr:∀ x,x<wr.heap.size→some x≠nv.ownBlock→x≠t→x≠B→(w9.setCell ⟨t,1,none⟩ (.slice A9 (k+1) c9)).heap[x]? = wr.heap[x]?:=fun x hx h1 h2 h3=>(keep x (by omega) h1 h2).trans ((HG8.out.block x (by have:=AB7.out.size;omega) (fun e=>h3 (by simpa using e))).trans (AB7.out.block x hx))
    have bbr:wr.heap.size≤b:=by have:=HBx.out;omega
    have hnvlt:∀ q,nv.ownBlock=some q→q<wr.heap.size:=fun q hq=>(HOw.out.lt q hq).2
    have ndk:NodeAt (w9.setCell ⟨t,1,none⟩ (.slice A9 (k+1) c9)) b (C k).id 0 (C k).every (C k).cap (C k).least 0 0 0 (.slice none 0 0) (.slice none 0 0):=by
     have hq:=HQ.out
     rw [hq.1,hq.2.1,hq.2.2.1,hq.2.2.2.1,hq.2.2.2.2]
     exact HNd7.out.same ((keep b (by omega) (fun e=>by have:=hnvlt b e.symm;omega) (by omega)).trans (HG8.out.block b bl7 (fun e=>by simp only [Option.some.injEq] at e;omega)))
    go_roundw
    case rel=>
     refine ⟨k+1,m+1,.slice A9 (k+1) c9,fun j=>if j=k then b else bs j,F8,by omega,by go_num,town_set1 HE9.out _,?_,fun j hj=>?_,fun i j hi hj he=>?_,HM8.out.same (keep B (by omega) (fun e=>(nvB B e.symm).1 rfl) (fun e=>tB e.symm)),by omega,fun i hi1 hi2=>?_,fun q hq=>?_,?_⟩
     ·have h9:=HO9.out
      have e1:((List.range (k+1)).map fun j=>Value.pointer (some ⟨if j=k then b else bs j,0,none⟩))=((List.range k).map fun j=>Value.pointer (some ⟨bs j,0,none⟩)) ++ [.pointer (some ⟨b,0,none⟩)]:=by
       rw [List.range_succ,List.map_append]
       congr 1
       ·apply List.map_congr_left
        intro j hj
        have:=List.mem_range.1 hj
        rw [if_neg (by omega)]
       ·simp
      rw [e1]
      exact own_elsewhere h9 (fun e=>t9 t e rfl) _ _
     ·by_cases e:j=k
      ·subst e
       dsimp only
       rw [if_pos rfl]
       exact ⟨ndk,by omega⟩
      ·dsimp only
       rw [if_neg e]
       obtain ⟨h1,h2⟩:=HNd.out j (by omega)
       have hl:=h1.lt
       exact ⟨h1.same (keepr (bs j) hl (fun e=>(HNv.out (bs j) e.symm).2 j (by omega) rfl) (by omega) (by omega)),h2⟩
     ·dsimp only at he
      by_cases e1:i=k
      ·by_cases e2:j=k
       ·omega
       ·rw [if_pos e1,if_neg e2] at he
        have:=(HNd.out j (by omega)).1.lt
        omega
      ·by_cases e2:j=k
       ·rw [if_neg e1,if_pos e2] at he
        have:=(HNd.out i (by omega)).1.lt
        omega
       ·rw [if_neg e1,if_neg e2] at he
        exact HInj.out i j (by omega) (by omega) he
     ·rw [HF8.out.2 _ (fun e=>by
       have e':(C i).id=q0:=by simpa using e
       have h1:=HQ.out
       have:=hne i k hi2 hlt (by rw [e',h1.1,h1.2.1])
       omega)]
      exact HF.out i (by omega) hi2
     ·obtain ⟨h1,h2,h3⟩:=hno9 q hq
      refine ⟨h1,fun j hj=>?_⟩
      dsimp only
      by_cases e:j=k
      ·rw [if_pos e]
       rcases h2 with h2 | h2
       ·have:=hnvlt q h2;omega
       ·omega
      ·rw [if_neg e]
       have hl:=(HNd.out j (by omega)).1.lt
       rcases h2 with h2 | h2
       ·exact (HNv.out q h2).2 j (by omega)
       ·omega
     ·have hk:=HK.out
      refine ⟨HG9.out.os.trans (HG8.out.os.trans (AB7.out.os.trans hk.os)),HG9.out.tape.trans (HG8.out.tape.trans (AB7.out.tape.trans hk.tape)),HG9.out.output.trans (HG8.out.output.trans (AB7.out.output.trans hk.output)),by simp only [World.size_setCell];omega,fun x hx hfx=>?_⟩
      exact (keepr x (by omega) (fun e=>by have:=(HNv.out x e.symm).1;omega) (fun e=>hfx (.inl e)) (fun e=>hfx (.inr e))).trans (hk.block x hx hfx)
    case measure=>simp [intOf];omega
   ·obtain rfl:n=k:=by omega
    obtain ⟨An,cn,rfl,hcn,_,hnil⟩:=own_form hown
    obtain ⟨gn,rfl⟩:∃ g,An=some ⟨g,0,none⟩:=by
     rcases hown.2 with ⟨_,h⟩ | ⟨g,c',cur,he,_⟩
     ·omega
     ·simp only [Value.slice.injEq] at he
      exact ⟨g,he.1⟩
    have gnl:=hown.lt gn rfl
    have hnq:=hnv gn rfl
    obtain ⟨Ax,cx,e1,hca,_,_⟩:=own_form OA.out
    simp only [Value.slice.injEq,true_and] at e1
    rw [← e1.2] at hca
    have gab:ga<w5.heap.size:=(OA.out.lt ga rfl).2
    have gdb:gd<w5.heap.size:=(OD.out.lt gd rfl).2
    have T0:TRepC wr t (stN C n 0 0) (fun x=>w.heap.size≤x∧x<wr.heap.size) (colN t ga gd gn n bs) ga gn gd ca cn n (.slice none 0 0) bs:=by
     have nd0:∀ i,(stN C n 0 0).nd i=cfS (C i):=fun i=>by
      show (if i<0 then wpS C i n else if i=0 then wpS C i 0 else wpS C i 0)=_
      rw [if_neg (by omega)]
      split <;> rfl
     have colB:∀ i,i<n→colN t ga gd gn n bs (bs i)=i+5:=fun i hi=>by
      have h1:=(hnd i hi).2
      have h2:=hnq.2 i hi
      unfold colN
      rw [if_neg (by omega),if_neg (by omega),if_neg (by omega),if_neg h2]
      have hex:∃ j,j<n∧bs j=bs i:=⟨i,hi,rfl⟩
      rw [dif_pos hex]
      have:=hinj _ i hex.choose_spec.1 hi hex.choose_spec.2
      omega
     have kb:∀ x,x<w5.heap.size→x≠t→x≠B→wr.heap[x]? = w5.heap[x]?:=fun x hx h1 h2=>hkept.block x hx (fun h=>h.elim h1 h2)
     have kga:=kb ga gab (by omega) (by omega)
     have kgd:=kb gd gdb (by omega) (by omega)
     have tw:t<wr.heap.size:=(Array.getElem?_eq_some_iff.1 ht).1
     refine ⟨ht,fun i hi=>?_,fun i hi=>?_,fun i hi=>?_,fun o=>?_,World.ownsRow_nil _ _ _ _,fun i hi=>?_,⟨⟨htw,tw⟩,⟨by omega,by omega⟩,⟨gnl.1,gnl.2⟩,⟨by omega,by omega⟩⟩,⟨?_,?_,?_,?_⟩,fun q hq=>by simp [Value.ownBlock] at hq,fun x hx=>hx.2,hca,hcn,Nat.le_refl _⟩
     ·rw [nd0]
      obtain ⟨g,hA,_,_,hc⟩:=cfg_at OA.out (show i<n from hi)
      simp only [Option.some.injEq,Addr.mk.injEq,and_true] at hA
      subst hA
      exact (World.cell?_of_block (a:=⟨ga,i * 5+2,none⟩) kga).trans (hc 2 (by omega))
     ·have:=hown.cells (g:=gn) rfl i (.pointer (some ⟨bs i,0,none⟩)) (by rw [List.getElem?_map,List.getElem?_range (show i<n from hi)];rfl)
      rw [Go.WideShapes.add_plain,Nat.zero_add] at this
      exact this
     ·have:=OD.out.cells (g:=gd) rfl i (.bool false) (made_get n i hi)
      rw [Go.WideShapes.add_plain,Nat.zero_add] at this
      exact (World.cell?_of_block (a:=⟨gd,i,none⟩) kgd).trans this
     ·rcases OD.out.2 with ⟨_,h⟩ | ⟨g',c',cur,he,_,hg,_⟩
      ·omega
      ·simp only [Value.slice.injEq,Option.some.injEq,Addr.mk.injEq,and_true,true_and] at he
       obtain ⟨rfl,_⟩:=he
       exact (World.frozen?_of_block kgd).trans ((block_cells hg).2 o)
     ·rw [nd0]
      refine (NRep.new (hnd i hi).1).imp (fun x hx=>?_) (fun x hx=>hx.1.2)
      have hx':x=bs i:=hx
      rw [hx']
      exact ⟨⟨by have:=(hnd i hi).2;omega,(hnd i hi).1.lt⟩,colB i hi⟩
     ·unfold colN;rw [if_pos rfl]
     ·unfold colN;rw [if_neg (by omega),if_pos rfl]
     ·have:=hnq.1;unfold colN;rw [if_neg (by omega),if_neg (by omega),if_neg (by omega),if_pos rfl]
     ·unfold colN;rw [if_neg (by omega),if_neg (by omega),if_pos rfl]
    have HT0:=Lib.hid T0
    have BW:Below w.heap.size w wr:=B5.out.trans (hkept.below (B5.out.size) (fun x hx=>by rcases hx with rfl | rfl <;> omega))
    have HBW:=Lib.hid BW
    have t1:wr.cell? ⟨t,1,none⟩=some (.slice (some ⟨gn,0,none⟩) n cn):=by rw [cell_of_row _ _ _ _ _ _ ht];rfl
    clear T0 BW ht hown hnd hinj hM hF hnv hkept
    go_wp2_with fail
    go_loopw [62] (fun v wx=>∃ (i:Nat) (f':Nat→Prop) (cl:Nat→Nat),i≤n∧v=.int .i64 i∧TRepC wx t (stN C n i 0) f' cl ga gn gd ca cn n (.slice none 0 0) bs∧(∀ x,f' x→w.heap.size≤x)∧Below w.heap.size w wx) (fun v _=>n - (intOf v).toNat)
    case atStart=>exact ⟨0,_,_,Nat.zero_le _,rfl,HT0.out,fun x hx=>hx.1,HBW.out⟩
    case round=>
     obtain ⟨wx,rfl⟩:∃ z:World,z=wr:=⟨_,rfl⟩
     obtain ⟨i,f',cl',hi,rfl,hT,hf',bel⟩:=hrel
     have szx:=bel.size
     by_cases hin:i<n
     ·obtain ⟨_,p1,_,_,_,nl2,_,_⟩:=hT.parts (S:=stN C n i 0) (i:=i) hin
      have iw:IntKind.i64.wrap ((i:Int)+1)=(i:Int)+1:=IntWalk.i64_in _ (by omega)
      have hin':(i:Int)<n:=by omega
      have HT:=Lib.hid hT
      have HFx:=Lib.hid hf'
      have HBx:=Lib.hid bel
      clear hT hf' bel
      go_wp2_with fail
      go_loopw [69] (fun v wy=>∃ (k:Nat) (f':Nat→Prop) (cl:Nat→Nat),k≤n∧v=.int .i64 k∧TRepC wy t (stN C n i k) f' cl ga gn gd ca cn n (.slice none 0 0) bs∧(∀ x,f' x→w.heap.size≤x)∧Below w.heap.size w wy) (fun v _=>n - (intOf v).toNat)
      case atStart=>exact ⟨0,f',cl',Nat.zero_le _,rfl,HT.out,HFx.out,HBx.out⟩
      case round=>
       obtain ⟨wy,rfl⟩:∃ z:World,z=wr:=⟨_,rfl⟩
       obtain ⟨k,f2,cl2,hk2,rfl,hT,hf2,bely⟩:=hrel
       have szy:=bely.size
       by_cases hkn:k<n
       ·obtain ⟨gl,rfl,gll,_,hcf⟩:=cfg_at HO.out hkn
        have hcell:∀ j,j<5→wy.cell? ⟨gl,k * 5+j,none⟩=(cfC (C k))[j]?:=fun j hj=>by
         rw [← hcf j hj];exact bely.cell (p:=⟨gl,k * 5+j,none⟩) gll
        obtain ⟨cf,hcfe⟩:∃ c,C k=c:=⟨_,rfl⟩
        rw [hcfe] at hcell
        have okc:=hC k hkn
        rw [hcfe] at okc
        obtain ⟨q0,h0⟩:∃ x,cf.id=x:=⟨_,rfl⟩
        obtain ⟨q2,h2⟩:∃ x,cf.every=x:=⟨_,rfl⟩
        have c0:wy.cell? ⟨gl,k * 5,none⟩=some (.string q0):=by rw [← h0];exact hcell 0 (by omega)
        have c1:wy.cell? ⟨gl,k * 5+1,none⟩=some (.int .i64 0):=hcell 1 (by omega)
        have c2:wy.cell? ⟨gl,k * 5+2,none⟩=some (.int .i64 q2):=by rw [← h2];exact hcell 2 (by omega)
        have c3:wy.cell? ⟨gl,k * 5+3,none⟩=some (.int .i64 cf.cap):=hcell 3 (by omega)
        have c4:wy.cell? ⟨gl,k * 5+4,none⟩=some (.int .i64 cf.least):=hcell 4 (by omega)
        obtain ⟨q3,h3⟩:∃ x,cf.cap=x:=⟨_,rfl⟩
        obtain ⟨q4,h4⟩:∃ x,cf.least=x:=⟨_,rfl⟩
        rw [h3] at c3
        rw [h4] at c4
        have kw:IntKind.i64.wrap ((k:Int)+1)=(k:Int)+1:=IntWalk.i64_in _ (by omega)
        have hknI:(k:Int)<n:=by omega
        have ab:Below wy.heap.size wy (wy.alloc (.cells #[.string q0,.int .i64 0,.int .i64 q2,.int .i64 q3,.int .i64 q4] 106)):=(Below.refl _ _).alloc (Nat.le_refl _) _
        have x0:(wy.alloc (.cells #[.string q0,.int .i64 0,.int .i64 q2,.int .i64 q3,.int .i64 q4] 106)).cell? ⟨wy.heap.size,0,none⟩=some (.string q0):=by simp [alloc_cells]
        have x2:(wy.alloc (.cells #[.string q0,.int .i64 0,.int .i64 q2,.int .i64 q3,.int .i64 q4] 106)).cell? ⟨wy.heap.size,2,none⟩=some (.int .i64 q2):=by simp [alloc_cells]
        have T6:=Lib.hid (hT.below ab)
        have B6:=Lib.hid (bely.trans (ab.mono szy))
        have HF2:=Lib.hid hf2
        obtain ⟨wok,whas⟩:=wpS_ok hn.2 hC hne hin k (by omega)
        have whas':=whas hkn
        have wlen:=wpP_len (C:=C) (j:=i) k
        have HQ:=Lib.hid (And.intro hcfe (And.intro h0 h2))
        have OKC:=Lib.hid okc
        have WOK:=Lib.hid (And.intro wok (And.intro whas' wlen))
        have qa:=alloc_cells
        have qf:=alloc_frozens
        clear hcf hcell hcfe okc h0 h2 h3 h4 hT hf2 bely ab wok whas whas' wlen
        go_upto_region 22 with fail
        generalize wy.alloc (.cells #[.string q0,.int .i64 0,.int .i64 q2,.int .i64 q3,.int .i64 q4] 106)=w7 at x0 x2 T6 B6 ⊢
        by_cases hki:k=i
        ·subst hki
         clear c0 c1 c2 c3 c4
         go_wp2_with fail
         go_roundw
         case rel=>exact ⟨k+1,f2,cl2,by omega,by go_num,by rw [stN_same];exact T6.out,HF2.out,B6.out⟩
         case measure=>simp [intOf];omega
        ·have hki':((k:Int) != (i:Int))=true:=by simp;omega
         obtain ⟨_,_,_,nr,_⟩:=T6.out.parts (S:=stN C n i k) (i:=i) hin
         rw [stN_at] at nr
         have HWt:=Lib.hid (nwatch_ok (bs i) (wpS C i k) _ q0 q2 w7 nr WOK.out.1 (fun e=>hki (hne k i hkn hin (by rw [HQ.out.1,HQ.out.2.1];exact e))) (by rw [← HQ.out.2.1];exact OKC.out.id) (by have:=OKC.out.every;rw [HQ.out.2.2] at this;omega) (by have:=WOK.out.2.1;rw [HQ.out.1,HQ.out.2.1] at this;exact this) (by have:=WOK.out.2.2;show (wpP C i k).length<6;omega))
         clear c0 c1 c2 c3 c4 nr
         go_wp2_with fail
         refine HWt.out.mono ?_
         rintro e w8 ⟨rfl,⟨m8,rep8⟩,k8⟩
         have es:({ wpS C i k with peers:=addS (newP q0 (wpS C i k).cap q2 (wpS C i k).now) (wpS C i k).peers }:NSt)=wpS C i (k+1):=by
          show _ = { cfS (C i) with peers:=wpP C i (k+1) }
          rw [wpP_succ,if_neg hki,HQ.out.1,HQ.out.2.1,HQ.out.2.2]
          rfl
         rw [es] at rep8
         have rl:=rep8.lt
         have N8:=T6.out.node (S:=stN C n i k) (M:=w8.heap.size) hin rep8 ⟨k8.size,Nat.le_refl _⟩ (fun x hx=>hx.imp (fun h=>h) (fun h=>⟨h.1,rl x (.inr h)⟩)) k8 (by rw [stN_at];rfl)
         rw [stN_set] at N8
         have z7:=B6.out.size
         have HN8:=Lib.hid N8
         clear rep8 k8 es rl N8
         go_wp2_with fail
         go_roundw
         case rel=>exact ⟨k+1,_,_,by omega,by go_num,HN8.out.1,fun x hx=>hx.elim (HF2.out x) (fun h=>by omega),B6.out.trans (HN8.out.2.below z7 HF2.out)⟩
         case measure=>simp [intOf];omega
       ·obtain rfl:n=k:=by omega
        have HT2:=Lib.hid hT
        have HF2:=Lib.hid hf2
        have HB2:=Lib.hid bely
        clear hT hf2 bely
        go_wp2_with fail
        go_roundw
        case rel=>exact ⟨i+1,f2,cl2,by omega,by go_num,by rw [← stN_next];exact HT2.out,HF2.out,HB2.out⟩
        case measure=>simp [intOf];omega
     ·obtain rfl:n=i:=by omega
      have HT:=Lib.hid hT
      have HFx:=Lib.hid hf'
      have HBx:=Lib.hid bel
      clear hT hf' bel
      go_wp2_with fail
      go_ret2
      exact ⟨t,f',rfl,⟨_,_,_,_,_,_,_,_,_,HT.out⟩,HFx.out,HBx.out⟩
end Go.Proofs.YtnaebigoknfndaaGreatDoor
namespace Go.Proofs.YtnaebigoknfndaaGreatDoor
open Go Go.RowKit
theorem stN_nd (C:Nat→Cfg) {n j:Nat} (hj:j<n):(stN C n n 0).nd j=wpS C j n:=by
 show (if j<n then _ else _)=_
 rw [if_pos hj]
theorem wpS_tn {C:Nat→Cfg} {n j:Nat} (hn:n≤5) (hC:∀ j,j<n→CfgOK (C j)) (hne:∀ i j,i<n→j<n→(C i).id=(C j).id→i=j) (hj:j<n):TN (wpS C j n):=
 ⟨(wpS_ok hn hC hne hj n (Nat.le_refl _)).1,rfl,by show (0:Int)=0 / _;simp⟩
end Go.Proofs.YtnaebigoknfndaaGreatDoor
namespace Go.Proofs.YtnaebigoknfndaaGreatDoor
open Go Go.RowKit
def nmT (k:Nat):ByteArray:=if k=0 then nA else if k=1 then nB else nC
def prT (s:NSt) (id:ByteArray):Peer:=s.peers.getD (pos s.peers id) default
structure TOK (n:Nat) (E:Nat→Int) (T:Int) (S:TSt):Prop where
 n3:n≤3
 sn:S.n=n
 tn:∀ i,i<n→TN (S.nd i)
 id:∀ i,i<n→(S.nd i).id=nmT i
 every:∀ i,i<n→(S.nd i).every=E i
 now:∀ i,i<n→(S.nd i).now≤T
 knows:∀ i j,i<n→j<n→has (S.nd i).peers (nmT j)=decide (i≠j)
 peer:∀ i j,i<n→j<n→i≠j→(prT (S.nd i) (nmT j)).inc=0∧0≤(prT (S.nd i) (nmT j)).seq∧(prT (S.nd i) (nmT j)).seq≤(S.nd j).seq
 way:∀ x,x∈S.way→∃ j q,j<n∧1≤q∧q≤(S.nd j).seq∧x=mkB (encL (byts (nmT j)) 0 q.toNat)
 len:S.way.length≤1000
section
variable {n:Nat} {E:Nat→Int} {T g:Int} {S:TSt}
theorem tk_live {j:Nat} (hd:S.dead j=false):tkN S g j=(tickF (S.nd j) g).1:=by unfold tkN;rw [hd];rfl
theorem tk_dead {j:Nat} (hd:S.dead j=true):tkN S g j=S.nd j:=by unfold tkN;rw [if_pos hd]
theorem twS_nd {k j:Nat} (hj:j<k):(twS S g k).nd j=tkN S g j:=by show (if j<k then _ else _)=_;rw [if_pos hj]
variable {s:NSt} {id:ByteArray} {q:Int}
theorem hearF_no (h:has s.peers id=false):hearF s id q=(dropQ s,[]):=by unfold hearF;rw [if_neg (by rw [h];simp)]
theorem hearF_old (h:has s.peers id=true) (hn:newB s id q=false):hearF s id q=(dropQ (hearQ s id q),[]):=by unfold hearF;rw [if_pos h,if_neg (by rw [hn];simp)]
theorem hearF_new (h:has s.peers id=true) (hn:newB s id q=true):hearF s id q=(tellS (hearQ s id q),toldN (hearQ s id q)):=by unfold hearF;rw [if_pos h,if_pos hn]
theorem hearF_same:(hearF s id q).1.id=s.id∧(hearF s id q).1.inc=s.inc∧(hearF s id q).1.every=s.every∧(hearF s id q).1.now=s.now∧(hearF s id q).1.seq=s.seq∧(hearF s id q).1.least=s.least:=by
 unfold hearF
 split
 ·split <;> exact ⟨rfl,rfl,rfl,rfl,rfl,rfl⟩
 ·exact ⟨rfl,rfl,rfl,rfl,rfl,rfl⟩
theorem TN.hear (h:TN s) (hid:IdOK (byts id)) (hq:1≤q∧q<2147483648):TN (hearF s id q).1:=by
 have eq:((q.toNat:Nat):Int)=q:=by omega
 have dr:∀ {t:NSt},NOK t→NOK (dropQ t):=fun {t} k=>by
  have h2:=more_bd k.drops.1
  exact ⟨k.id,k.inc,k.every,k.cap,k.least,k.now,k.seq,⟨h2.1,h2.2.1⟩,k.tab,k.wins,k.subs⟩
 obtain ⟨_,e2,e3,e4,e5,_⟩:=hearF_same (s:=s) (id:=id) (q:=q)
 refine ⟨?_,by rw [e2];exact h.inc,by rw [e5,e4,e3];exact h.seq⟩
 cases hh:has s.peers id with
 | false=>rw [hearF_no hh];exact dr h.ok
 | true=>
  have hb:=h.ok.hears (i:=0) (q:=q.toNat) ⟨hid,by omega,by omega,by omega⟩ hh
  rw [eq] at hb
  have k:NOK (hearQ s id q):=h.ok.hear hb
  cases hn:newB s id q with
  | true=>rw [hearF_new hh hn];exact k.tell
  | false=>rw [hearF_old hh hn];exact dr k
theorem setN_at (S:TSt) (u:Nat) (s:NSt):(setN S u s).nd u=s:=by show (if u=u then _ else _)=_;rw [if_pos rfl]
theorem setN_ne (S:TSt) {u i:Nat} (s:NSt) (h:i≠u):(setN S u s).nd i=S.nd i:=by show (if i=u then _ else _)=_;rw [if_neg h]
def Mute (S:TSt):Prop:=∀ i,(S.nd i).subs = []
end
structure TwoT (E T:Int) (S:TSt):Prop where
 tok:TOK 2 (fun _=>E) T S
 mute:Mute S
 dead:S.dead=fun _=>false
section
variable {E T g:Int} {S:TSt}
end
end Go.Proofs.YtnaebigoknfndaaGreatDoor
