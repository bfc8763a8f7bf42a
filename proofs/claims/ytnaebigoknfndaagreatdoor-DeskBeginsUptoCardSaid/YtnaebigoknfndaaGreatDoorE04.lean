/- What the desk's two laws lean on: part 04 (contracts and plain laws; their conditions stand in each). -/
import Derived.Test.YtnaebigoknfndaaGreatDoorE01
import Derived.Lib.Hide
import Derived.Test.YtnaebigoknfndaaGreatDoorE02
import Derived.OrdersHeld
import Derived.RegionTactic
set_option linter.unusedVariables false
set_option linter.unusedSimpArgs false
set_option maxRecDepth 100000
set_option maxHeartbeats 20000000
namespace Go.Proofs.YtnaebigoknfndaaGreatDoor
open Go.RowKit
def GateOK (i s d:Int):Prop:=0≤i∧i<2147483648∧0≤s∧s<2147483648∧0≤d∧d≤1073741824∧¬ (s=0∧¬ i=0)
theorem gcheck_ok (i s d:Int) (h:GateOK i s d) (w:World) :
  Calls Tryz.prog 199 #[.agg #[.int .i64 i,.int .i64 s,.int .i64 d]] w fun e w'=>e=.returned (.int .i64 0)∧Below w.heap.size w w':=by
 obtain ⟨h1,h2,h3,h4,h5,h6,h7⟩:=h
 by_cases c:s=0
 ·have c':i=0:=by omega
  clear h7
  subst c c'
  go_enter Tryz.func199,Tryz.ntmps199
  go_wp2
  go_ret
  exact ⟨rfl,(by repeat (first | (with_reducible exact Below.refl _ _) | (with_reducible refine bAl ?_ _) | (with_reducible refine bSc ?_ _) | (with_reducible refine Below.drew ?_) | (refine Below.trans ?_ (by assumption))))⟩
 ·clear h7
  go_enter Tryz.func199,Tryz.ntmps199
  go_wp2
  go_ret
  exact ⟨rfl,(by repeat (first | (with_reducible exact Below.refl _ _) | (with_reducible refine bAl ?_ _) | (with_reducible refine bSc ?_ _) | (with_reducible refine Below.drew ?_) | (refine Below.trans ?_ (by assumption))))⟩
theorem gcheck_bad (i s d:Int) (h:¬ GateOK i s d) (w:World) :
  Calls Tryz.prog 199 #[.agg #[.int .i64 i,.int .i64 s,.int .i64 d]] w fun e w'=>e=.returned (.int .i64 1)∧Below w.heap.size w w':=by
 have cs:i<0∨(0≤i∧2147483648≤i)∨(0≤i∧i<2147483648∧s<0)∨(0≤i∧i<2147483648∧0≤s∧2147483648≤s)∨(0≤i∧i<2147483648∧0≤s∧s<2147483648∧d<0) ∨
   (0≤i∧i<2147483648∧0≤s∧s<2147483648∧0≤d∧1073741824<d)∨(0≤i∧i<2147483648∧0≤d∧d≤1073741824∧s=0∧¬ i=0):=by
  unfold GateOK at h;omega
 clear h
 rcases cs with h1 | ⟨h1,h2⟩ | ⟨h1,h2,h3⟩ | ⟨h1,h2,h3,h4⟩ | ⟨h1,h2,h3,h4,h5⟩ | ⟨h1,h2,h3,h4,h5,h6⟩ | ⟨h1,h2,h3,h4,rfl,h6⟩
 rotate_left 6
 ·have h7:(i != 0)=true:=by simpa using h6
  go_enter Tryz.func199,Tryz.ntmps199
  go_wp2
  go_ret
  exact ⟨rfl,(by repeat (first | (with_reducible exact Below.refl _ _) | (with_reducible refine bAl ?_ _) | (with_reducible refine bSc ?_ _) | (with_reducible refine Below.drew ?_) | (refine Below.trans ?_ (by assumption))))⟩
 all_goals
  go_enter Tryz.func199,Tryz.ntmps199
  go_wp2
  go_ret
  exact ⟨rfl,(by repeat (first | (with_reducible exact Below.refl _ _) | (with_reducible refine bAl ?_ _) | (with_reducible refine bSc ?_ _) | (with_reducible refine Below.drew ?_) | (refine Below.trans ?_ (by assumption))))⟩
theorem take_new (i s d j t:Int) (h:GateOK i s d) (j0:0≤j) (j1:j<2147483648) (t0:1≤t) (t1:t<2147483648) (hn:i<j∨j=i∧s<t) (w:World) :
  Calls Tryz.prog 179 #[.agg #[.int .i64 i,.int .i64 s,.int .i64 d],.int .i64 j,.int .i64 t] w fun e w'=>e=.returned (.tuple #[.agg #[.int .i64 j,.int .i64 t,.int .i64 d],.bool true,.int .i64 0])∧Below w.heap.size w w':=by
 have qa:=alloc_cells
 have qf:=alloc_frozens
 rcases hn with hn | ⟨rfl,hn⟩
 ·go_enter Tryz.func179,Tryz.ntmps179
  go_wp2_with fail
  refine (gcheck_ok i s d h _).mono ?_
  rintro e w1 ⟨rfl,hb1⟩
  have z1:=hb1.size
  have c1:=Below.cells hb1
  have f1:=Below.frozens hb1
  try simp only [World.size_alloc,World.size_setCell,World.size_drew] at z1 c1 f1
  go_wp2_with fail
  refine bodyPost_ret (v:=.tuple #[.agg #[.int .i64 j,.int .i64 t,.int .i64 d],.bool true,.int .i64 0]) (by simp [results,Tryz.results179,go_sem,↓IntWalk.iteOmega, *]) rfl ?_
  exact ⟨rfl,(by repeat (first | (with_reducible exact Below.refl _ _) | (with_reducible refine bAl ?_ _) | (with_reducible refine bSc ?_ _) | (with_reducible refine Below.drew ?_) | (with_reducible refine bTm ?_ hb1)))⟩
 ·have hn':¬ j<j:=by omega
  go_enter Tryz.func179,Tryz.ntmps179
  go_wp2_with fail
  refine (gcheck_ok j s d h _).mono ?_
  rintro e w1 ⟨rfl,hb1⟩
  have z1:=hb1.size
  have c1:=Below.cells hb1
  have f1:=Below.frozens hb1
  try simp only [World.size_alloc,World.size_setCell,World.size_drew] at z1 c1 f1
  go_wp2_with fail
  refine bodyPost_ret (v:=.tuple #[.agg #[.int .i64 j,.int .i64 t,.int .i64 d],.bool true,.int .i64 0]) (by simp [results,Tryz.results179,go_sem,↓IntWalk.iteOmega, *]) rfl ?_
  exact ⟨rfl,(by repeat (first | (with_reducible exact Below.refl _ _) | (with_reducible refine bAl ?_ _) | (with_reducible refine bSc ?_ _) | (with_reducible refine Below.drew ?_) | (with_reducible refine bTm ?_ hb1)))⟩
theorem take_old (i s d j t d':Int) (h:GateOK i s d) (j0:0≤j) (j1:j<2147483648) (t0:1≤t) (t1:t<2147483648) (hn:j<i∨j=i∧t≤s) (hd:d'=if d=1073741824 then d else d+1) (w:World) :
  Calls Tryz.prog 179 #[.agg #[.int .i64 i,.int .i64 s,.int .i64 d],.int .i64 j,.int .i64 t] w fun e w'=>e=.returned (.tuple #[.agg #[.int .i64 i,.int .i64 s,.int .i64 d'],.bool false,.int .i64 0])∧Below w.heap.size w w':=by
 have qa:=alloc_cells
 have qf:=alloc_frozens
 have hD:=h.2.2.2.2
 by_cases c:d=1073741824
 ·rw [if_pos c] at hd
  subst hd
  subst c
  rcases hn with hn | ⟨rfl,hn⟩
  ·have hn':¬ j=i:=by omega
   have hn'':¬ i<j:=by omega
   go_enter Tryz.func179,Tryz.ntmps179
   go_wp2_with fail
   refine (gcheck_ok i s 1073741824 h _).mono ?_
   rintro e w1 ⟨rfl,hb1⟩
   have z1:=hb1.size
   have c1:=Below.cells hb1
   have f1:=Below.frozens hb1
   try simp only [World.size_alloc,World.size_setCell,World.size_drew] at z1 c1 f1
   go_wp2_with fail
   refine bodyPost_ret (v:=.tuple #[.agg #[.int .i64 i,.int .i64 s,.int .i64 1073741824],.bool false,.int .i64 0]) (by simp [results,Tryz.results179,go_sem,↓IntWalk.iteOmega, *]) rfl ?_
   exact ⟨rfl,(by repeat (first | (with_reducible exact Below.refl _ _) | (with_reducible refine bAl ?_ _) | (with_reducible refine bSc ?_ _) | (with_reducible refine Below.drew ?_) | (with_reducible refine bTm ?_ hb1)))⟩
  ·have hn':¬ j<j:=by omega
   go_enter Tryz.func179,Tryz.ntmps179
   go_wp2_with fail
   refine (gcheck_ok j s 1073741824 h _).mono ?_
   rintro e w1 ⟨rfl,hb1⟩
   have z1:=hb1.size
   have c1:=Below.cells hb1
   have f1:=Below.frozens hb1
   try simp only [World.size_alloc,World.size_setCell,World.size_drew] at z1 c1 f1
   go_wp2_with fail
   refine bodyPost_ret (v:=.tuple #[.agg #[.int .i64 j,.int .i64 s,.int .i64 1073741824],.bool false,.int .i64 0]) (by simp [results,Tryz.results179,go_sem,↓IntWalk.iteOmega, *]) rfl ?_
   exact ⟨rfl,(by repeat (first | (with_reducible exact Below.refl _ _) | (with_reducible refine bAl ?_ _) | (with_reducible refine bSc ?_ _) | (with_reducible refine Below.drew ?_) | (with_reducible refine bTm ?_ hb1)))⟩
 ·rw [if_neg c] at hd
  subst hd
  have hm:¬ 1073741824<d+1:=by omega
  rcases hn with hn | ⟨rfl,hn⟩
  ·have hn':¬ j=i:=by omega
   have hn'':¬ i<j:=by omega
   go_enter Tryz.func179,Tryz.ntmps179
   go_wp2_with fail
   refine (gcheck_ok i s d h _).mono ?_
   rintro e w1 ⟨rfl,hb1⟩
   have z1:=hb1.size
   have c1:=Below.cells hb1
   have f1:=Below.frozens hb1
   try simp only [World.size_alloc,World.size_setCell,World.size_drew] at z1 c1 f1
   go_wp2_with fail
   refine bodyPost_ret (v:=.tuple #[.agg #[.int .i64 i,.int .i64 s,.int .i64 (d+1)],.bool false,.int .i64 0]) (by simp [results,Tryz.results179,go_sem,↓IntWalk.iteOmega, *]) rfl ?_
   exact ⟨rfl,(by repeat (first | (with_reducible exact Below.refl _ _) | (with_reducible refine bAl ?_ _) | (with_reducible refine bSc ?_ _) | (with_reducible refine Below.drew ?_) | (with_reducible refine bTm ?_ hb1)))⟩
  ·have hn':¬ j<j:=by omega
   go_enter Tryz.func179,Tryz.ntmps179
   go_wp2_with fail
   refine (gcheck_ok j s d h _).mono ?_
   rintro e w1 ⟨rfl,hb1⟩
   have z1:=hb1.size
   have c1:=Below.cells hb1
   have f1:=Below.frozens hb1
   try simp only [World.size_alloc,World.size_setCell,World.size_drew] at z1 c1 f1
   go_wp2_with fail
   refine bodyPost_ret (v:=.tuple #[.agg #[.int .i64 j,.int .i64 s,.int .i64 (d+1)],.bool false,.int .i64 0]) (by simp [results,Tryz.results179,go_sem,↓IntWalk.iteOmega, *]) rfl ?_
   exact ⟨rfl,(by repeat (first | (with_reducible exact Below.refl _ _) | (with_reducible refine bAl ?_ _) | (with_reducible refine bSc ?_ _) | (with_reducible refine Below.drew ?_) | (with_reducible refine bTm ?_ hb1)))⟩
end Go.Proofs.YtnaebigoknfndaaGreatDoor
namespace Go.Proofs.YtnaebigoknfndaaGreatDoor
open Go.RowKit
def sl (a b:ByteArray):Bool:=Op.bytesLess a.toList b.toList
theorem bless_irr:∀ l:List UInt8,Op.bytesLess l l=false
 | []=>rfl
 | a :: l=>by
   have:=bless_irr l
   simp [Op.bytesLess,this]
theorem bless_trans:∀ a b c:List UInt8,Op.bytesLess a b=true→Op.bytesLess b c=true→Op.bytesLess a c=true
 | [],_,[],_,h=>by cases ‹List UInt8› <;> simp [Op.bytesLess] at h
 | [],_,_ :: _,_,_=>rfl
 | _ :: _,[],_,h,_=>by simp [Op.bytesLess] at h
 | _ :: _,_ :: _,[],_,h=>by simp [Op.bytesLess] at h
 | x :: a,y :: b,z :: c,h,k=>by
   have ih:=bless_trans a b c
   simp only [Op.bytesLess,Bool.or_eq_true,decide_eq_true_eq,Bool.and_eq_true,beq_iff_eq] at h k ⊢
   rcases h with h | ⟨rfl,h⟩
   ·rcases k with k | ⟨rfl,k⟩
    ·exact .inl (UInt8.lt_trans h k)
    ·exact .inl h
   ·rcases k with k | ⟨rfl,k⟩
    ·exact .inl k
    ·exact .inr ⟨rfl,ih h k⟩
theorem u8_tri (x y:UInt8):x<y∨x=y∨y<x:=by
 rcases Nat.lt_trichotomy x.toNat y.toNat with h | h | h
 ·exact .inl (UInt8.lt_iff_toNat_lt.2 h)
 ·exact .inr (.inl (UInt8.toNat_inj.1 h))
 ·exact .inr (.inr (UInt8.lt_iff_toNat_lt.2 h))
theorem bless_tri:∀ a b:List UInt8,Op.bytesLess a b=true∨a=b∨Op.bytesLess b a=true
 | [],[]=>.inr (.inl rfl)
 | [],_ :: _=>.inl rfl
 | _ :: _,[]=>.inr (.inr rfl)
 | x :: a,y :: b=>by
   have ih:=bless_tri a b
   simp only [Op.bytesLess,Bool.or_eq_true,decide_eq_true_eq,Bool.and_eq_true,beq_iff_eq]
   rcases u8_tri x y with h | rfl | h
   ·exact .inl (.inl h)
   ·rcases ih with h | rfl | h
    ·exact .inl (.inr ⟨rfl,h⟩)
    ·exact .inr (.inl rfl)
    ·exact .inr (.inr (.inr ⟨rfl,h⟩))
   ·exact .inr (.inr (.inl h))
theorem sl_irr (a:ByteArray):sl a a=false:=bless_irr _
theorem sl_trans {a b c:ByteArray} (h:sl a b=true) (k:sl b c=true):sl a c=true:=bless_trans _ _ _ h k
theorem toList_inj {a b:ByteArray} (h:a.toList=b.toList):a=b:=by
 rw [ByteArray.toList_eq,ByteArray.toList_eq] at h
 exact ByteArray.ext (Array.toList_inj.1 h)
theorem sl_tri (a b:ByteArray):sl a b=true∨a=b∨sl b a=true:=by
 rcases bless_tri a.toList b.toList with h | h | h
 ·exact .inl h
 ·exact .inr (.inl (toList_inj h))
 ·exact .inr (.inr h)
structure Peer where
 id:ByteArray
 inc:Int
 seq:Int
 drops:Int
 cap:Int
 vals:List Int
 last:Int
instance:Inhabited Peer:=⟨⟨⟨#[]⟩,0,0,0,0,[],0⟩⟩
def WinOK (z:Int) (l:List Int):Prop:=1≤z∧z≤64∧(l.length:Int)≤z∧Btw 0 16777216 l
structure PeerOK (p:Peer):Prop where
 id:IdOK (byts p.id)
 gate:GateOK p.inc p.seq p.drops
 win:WinOK p.cap p.vals
 last:0≤p.last∧p.last≤1073741824
structure TabOK (L:List Peer):Prop where
 len:L.length≤6
 each:∀ p∈L,PeerOK p
 order:L.Pairwise (fun p q=>sl p.id q.id=true)
def pos (L:List Peer) (id:ByteArray):Nat:=(L.takeWhile fun q=>sl q.id id).length
theorem pos_le (L:List Peer) (id:ByteArray):pos L id≤L.length:=(List.takeWhile_sublist _).length_le
theorem pos_lo {L:List Peer} {id:ByteArray} {k:Nat} (h:k<pos L id):sl (L.getD k default).id id=true:=by
 unfold pos at h
 induction L generalizing k with
 | nil=>simp at h
 | cons q L ih=>
  rw [List.takeWhile_cons] at h
  split at h
  ·rename_i c
   cases k with
   | zero=>simpa using c
   | succ k=>
    have:=ih (k:=k) (by simp at h;omega)
    simpa using this
  ·simp at h
theorem pos_hi {L:List Peer} {id:ByteArray} (hs:L.Pairwise (fun p q=>sl p.id q.id=true)) {k:Nat} (h:pos L id≤k) (hk:k<L.length):sl (L.getD k default).id id=false:=by
 unfold pos at h
 induction L generalizing k with
 | nil=>simp at hk
 | cons q L ih=>
  obtain ⟨h1,h2⟩:=List.pairwise_cons.1 hs
  rw [List.takeWhile_cons] at h
  cases k with
  | zero=>
   split at h
   ·simp at h
   ·rename_i c;simpa using c
  | succ k=>
   have hk':k<L.length:=by simpa using hk
   split at h
   ·have:=ih h2 (k:=k) (by simp at h;omega) hk'
    simpa using this
   ·rename_i c
    have hm:L.getD k default∈L:=by
     rw [List.getD_eq_getElem?_getD,List.getElem?_eq_getElem hk'];exact List.getElem_mem _
    cases e:sl (L.getD k default).id id with
    | false=>simpa using e
    | true=>exact absurd (sl_trans (h1 _ hm) e) c
def has (L:List Peer) (id:ByteArray):Bool:=decide (pos L id<L.length) && decide ((L.getD (pos L id) default).id=id)
theorem has_iff {L:List Peer} (hs:L.Pairwise (fun p q=>sl p.id q.id=true)) (id:ByteArray):has L id=true↔∃ p∈L,p.id=id:=by
 unfold has
 simp only [Bool.and_eq_true,decide_eq_true_eq]
 constructor
 ·rintro ⟨h1,h2⟩
  exact ⟨_,by rw [List.getD_eq_getElem?_getD,List.getElem?_eq_getElem h1];exact List.getElem_mem _,h2⟩
 ·rintro ⟨p,hp,e⟩
  obtain ⟨k,hk,rfl⟩:=List.getElem_of_mem hp
  have hg:∀ j (hj:j<L.length),L.getD j default=L[j]:=fun j hj=>by simp [List.getD_eq_getElem?_getD,hj]
  have h1:pos L id≤k:=by
   rcases Nat.lt_or_ge k (pos L id) with c | c
   ·have:=pos_lo c
    rw [hg k hk,e,sl_irr] at this;cases this
   ·exact c
  rcases Nat.eq_or_lt_of_le h1 with c | c
  ·exact ⟨by omega,by rw [c,hg _ hk];exact e⟩
  ·have h3:pos L id<L.length:=by omega
   have:=List.pairwise_iff_getElem.1 hs _ _ h3 hk c
   have h4:=pos_hi hs (Nat.le_refl _) h3
   rw [hg _ h3] at h4
   rw [e] at this
   rw [this] at h4
   cases h4
def addS (p:Peer):List Peer→List Peer
 | []=>[p]
 | q :: r=>if sl q.id p.id then q :: addS p r else p :: q :: r
theorem addS_pos (p:Peer):∀ L,addS p L=L.take (pos L p.id)++p :: L.drop (pos L p.id)
 | []=>rfl
 | q :: r=>by
   unfold addS pos
   rw [List.takeWhile_cons]
   split
   ·have:=addS_pos p r
    unfold pos at this
    simp [this]
   ·simp
theorem addS_len (p:Peer):∀ L,(addS p L).length=L.length+1
 | []=>rfl
 | q :: r=>by
   unfold addS
   split
   ·simp [addS_len p r]
   ·simp
theorem addS_mem {p x:Peer}:∀ {L},x∈addS p L↔x=p∨x∈L
 | []=>by simp [addS]
 | q :: r=>by
   unfold addS
   split
   ·rw [List.mem_cons,addS_mem (L:=r),List.mem_cons]
    constructor
    ·rintro (h | h | h)
     ·exact .inr (.inl h)
     ·exact .inl h
     ·exact .inr (.inr h)
    ·rintro (h | h | h)
     ·exact .inr (.inl h)
     ·exact .inl h
     ·exact .inr (.inr h)
   ·simp
theorem addS_order {p:Peer}:∀ {L:List Peer},L.Pairwise (fun p q=>sl p.id q.id=true)→(∀ q∈L,q.id≠p.id)→(addS p L).Pairwise (fun p q=>sl p.id q.id=true)
 | [],_,_=>by simp [addS]
 | q :: r,h,hn=>by
   obtain ⟨h1,h2⟩:=List.pairwise_cons.1 h
   unfold addS
   split
   ·rename_i c
    refine List.pairwise_cons.2 ⟨fun x hx=>?_,addS_order h2 (fun x hx=>hn x (List.mem_cons_of_mem _ hx))⟩
    rcases addS_mem.1 hx with rfl | hx
    ·exact c
    ·exact h1 x hx
   ·rename_i c
    have hpq:sl p.id q.id=true:=by
     rcases sl_tri q.id p.id with e | e | e
     ·exact absurd e c
     ·exact absurd e (hn q (by simp))
     ·exact e
    refine List.pairwise_cons.2 ⟨fun x hx=>?_,h⟩
    rcases List.mem_cons.1 hx with rfl | hx
    ·exact hpq
    ·exact sl_trans hpq (h1 x hx)
theorem addS_tab {p:Peer} {L:List Peer} (h:TabOK L) (hp:PeerOK p) (hl:L.length<6) (hn:has L p.id=false):TabOK (addS p L):=by
 refine ⟨by rw [addS_len];omega,fun q hq=>?_,addS_order h.order (fun q hq e=>?_)⟩
 ·rcases addS_mem.1 hq with rfl | hq
  ·exact hp
  ·exact h.each q hq
 ·rw [(has_iff h.order p.id).2 ⟨q,hq,e⟩] at hn;cases hn
def newer (p:Peer) (i s:Int):Bool:=decide (p.inc<i) || (decide (i=p.inc) && decide (p.seq<s))
def heardP (p:Peer) (i s now:Int):Peer:=
 if newer p i s then { p with inc:=i,seq:=s,vals:=(if (p.vals.length:Int)=p.cap then p.vals.drop 1 else p.vals) ++ [min (now - p.last) 16777216],last:=now }
 else { p with drops:=if p.drops=1073741824 then p.drops else p.drops+1 }
def hearS (L:List Peer) (id:ByteArray) (i s now:Int):List Peer:=L.set (pos L id) (heardP (L.getD (pos L id) default) i s now)
end Go.Proofs.YtnaebigoknfndaaGreatDoor
namespace Go.Proofs.YtnaebigoknfndaaGreatDoor
theorem mul_bd {a b A B:Int} (h:0≤a∧a≤A) (h':0≤b∧b≤B):0≤a * b∧a * b≤A * B:=
 ⟨Int.mul_nonneg h.1 h'.1,Int.mul_le_mul h.2 h'.2 h'.1 (by omega)⟩
end Go.Proofs.YtnaebigoknfndaaGreatDoor
namespace Go.Proofs.YtnaebigoknfndaaGreatDoor
open Go.RowKit
def SumsOK (n s q:Int):Prop:=0≤n∧n≤64∧0≤s∧s≤n * 16777216∧s≤q∧q≤s * 16777216∧s * s≤n * q
theorem sumsOK_of {l:List Int} (h:Btw 0 16777216 l) (hl:l.length≤64):SumsOK l.length (sumI l) (sqI l):=by
 have h1:=sumI_bd h
 have h2:=sqI_bd h
 have h3:=spr_nonneg l
 unfold spr at h3
 exact ⟨by omega,by omega,by omega,by omega,by omega,by omega,by omega⟩
theorem SumsOK.bd {n s q:Int} (h:SumsOK n s q):0≤n∧n≤64∧0≤s∧s≤1073741824∧0≤q∧q≤18014398509481984∧0≤n * q∧n * q≤1152921504606846976∧0≤s * s∧s * s≤n * q:=by
 obtain ⟨h1,h2,h3,h4,h5,h6,h7⟩:=h
 have a:0≤n * q:=Int.mul_nonneg h1 (by omega)
 have b:n * q≤64 * q:=Int.mul_le_mul_of_nonneg_right h2 (by omega)
 have c:0≤s * s:=Int.mul_nonneg h3 h3
 exact ⟨h1,h2,h3,by omega,by omega,by omega,a,by omega,c,h7⟩
theorem scheck_ok (n s q:Int) (h:SumsOK n s q) (w:World) :
  Calls Tryz.prog 110 #[.agg #[.int .i64 n,.int .i64 s,.int .i64 q]] w fun e w'=>e=.returned (.int .i64 0)∧Below w.heap.size w w':=by
 obtain ⟨_,_,_,b4,b5,b6,b7,b8,b9,_⟩:=h.bd
 obtain ⟨h1,h2,h3,h4,h5,h6,h7⟩:=h
 go_enter Tryz.func110,Tryz.ntmps110
 go_wp2_with fail
 go_ret
 exact ⟨rfl,(by repeat (first | (with_reducible exact Below.refl _ _) | (with_reducible refine bAl ?_ _) | (with_reducible refine bSc ?_ _) | (with_reducible refine Below.drew ?_) | (refine Below.trans ?_ (by assumption))))⟩
theorem spread_ok (n s q x:Int) (h:SumsOK n s q) (hx:n * q - s * s=x) (w:World) :
  Calls Tryz.prog 62 #[.agg #[.int .i64 n,.int .i64 s,.int .i64 q]] w fun e w'=>e=.returned (.tuple #[.int .i64 x,.int .i64 0])∧Below w.heap.size w w':=by
 obtain ⟨_,_,_,b4,b5,b6,b7,b8,b9,b10⟩:=h.bd
 have HX:=Lib.hid hx
 clear hx
 have qa:=alloc_cells
 have qf:=alloc_frozens
 go_enter Tryz.func62,Tryz.ntmps62
 go_wp2_with fail
 refine (scheck_ok n s q h _).mono ?_
 rintro e w1 ⟨rfl,hb1⟩
 have z1:=hb1.size
 have c1:=Below.cells hb1
 have f1:=Below.frozens hb1
 try simp only [World.size_alloc,World.size_setCell,World.size_drew] at z1 c1 f1
 go_wp2_with fail
 rw [HX.out]
 go_ret2
 exact ⟨rfl,(by repeat (first | (with_reducible exact Below.refl _ _) | (with_reducible refine bAl ?_ _) | (with_reducible refine bSc ?_ _) | (with_reducible refine Below.drew ?_) | (with_reducible refine bTm ?_ hb1)))⟩
theorem sof_ok (A:Option Addr) (n c:Nat) (l:List Int) (s q:Int) (w:World) (hr:Row w A n l) (hm:n≤64) (hb:Btw 0 16777216 l) (hs:sumI l=s) (hq:sqI l=q) :
  Calls Tryz.prog 109 #[.slice A n c] w fun e w'=>e=.returned (.tuple #[.agg #[.int .i64 n,.int .i64 s,.int .i64 q],.int .i64 0])∧Below w.heap.size w w':=by
 have HB:=Lib.hid hr.each
 have HL:=Lib.hid hr.len
 have HV:=Lib.hid hb
 have HR:=Lib.hid hr
 have Hs:=Lib.hid hs
 have Hq:=Lib.hid hq
 clear hr hb hs hq
 have qa:=alloc_cells
 have qf:=alloc_frozens
 go_enter Tryz.func109,Tryz.ntmps109
 go_wp2_with fail
 refine (list_ok A n c l _ (HR.out.below (by repeat (first | (with_reducible exact Below.refl _ _) | (with_reducible refine bAl ?_ _) | (with_reducible refine bSc ?_ _) | (with_reducible refine Below.drew ?_) | (refine Below.trans ?_ (by assumption))))) (by omega) HV.out).mono ?_
 rintro e w' ⟨rfl,rfl⟩
 go_wp2_with fail
 go_loopw [19] (fun i wr=>∃ k:Nat,k≤n∧i=.int .i64 k∧wr.cell? ⟨w.heap.size+1,0,none⟩=some (.int .i64 n)∧wr.cell? ⟨w.heap.size+1,1,none⟩=some (.int .i64 (sumI (l.take k))) ∧
   wr.cell? ⟨w.heap.size+1,2,none⟩=some (.int .i64 (sqI (l.take k)))∧wr.frozen? ⟨w.heap.size+1,1,none⟩=false∧wr.frozen? ⟨w.heap.size+1,2,none⟩=false ∧
   wr.cell? ⟨w.heap.size,0,none⟩=some (.int .i64 0)∧wr.cell? ⟨w.heap.size,1,none⟩=some (.int .i64 0)∧wr.cell? ⟨w.heap.size,2,none⟩=some (.int .i64 0) ∧
   wr.frozen? ⟨w.heap.size,0,none⟩=false∧wr.frozen? ⟨w.heap.size,1,none⟩=false∧wr.frozen? ⟨w.heap.size,2,none⟩=false ∧
   w.heap.size+2≤wr.heap.size∧Below w.heap.size w wr)
  (fun i _=>n - (intOf i).toNat)
 case atStart=>exact ⟨0,Nat.zero_le _,rfl,by simp [go_sem],by simp [go_sem,sumI],by simp [go_sem,sqI],by simp [go_sem],by simp [go_sem],by simp [go_sem],by simp [go_sem],by simp [go_sem],by simp [go_sem],by simp [go_sem],by simp [go_sem],by simp,(by repeat (first | (with_reducible exact Below.refl _ _) | (with_reducible refine bAl ?_ _) | (with_reducible refine bSc ?_ _) | (with_reducible refine Below.drew ?_) | (refine Below.trans ?_ (by assumption))))⟩
 case round=>
  obtain ⟨k,hk,rfl,c0,c1,c2,f1,f2,r0,r1,r2,g0,g1,g2,sz,bel⟩:=hrel
  have hV:=HV.out.take k
  have hL:=HL.out
  have hlen:(l.take k).length≤64:=by simp;omega
  have s1:=sumI_bd hV
  have s2:=sqI_bd hV
  obtain ⟨S,e_S⟩:∃ z_,sumI (l.take k)=z_:=⟨_,rfl⟩
  rw [e_S] at s1 s2 c1
  have HS:=Lib.hid e_S
  clear e_S
  obtain ⟨Q,e_Q⟩:∃ z_,sqI (l.take k)=z_:=⟨_,rfl⟩
  rw [e_Q] at s2 c2
  have HQ:=Lib.hid e_Q
  clear e_Q
  have s3:0≤S∧S≤1073741824:=by omega
  have s4:0≤Q∧Q≤18014398509481984:=by omega
  clear s1 s2 hV hlen
  by_cases hlt:k<n
  ·have hx2:=HV.out.get (k:=k) (by omega)
   have e1:=sumI_snoc l (k:=k) (by omega)
   have e2:=sqI_snoc l (k:=k) (by omega)
   obtain ⟨bkx,offx,hAx,ltx,hrx⟩:=HB.out k hlt
   subst hAx
   replace hrx:=(bel.cell (p:=⟨bkx,offx+k,none⟩) ltx).trans hrx
   obtain ⟨x,hvx,hxx⟩:=name_num hrx
   have HX:=Lib.hid hvx
   clear hvx hrx
   rw [← HX.out] at hx2 e1 e2
   have hxx:0≤x * x∧x * x≤281474976710656:=by
    refine ⟨Int.mul_nonneg hx2.1 hx2.1,?_⟩
    exact Int.le_trans (Int.mul_le_mul_of_nonneg_left hx2.2 hx2.1) (by omega)
   rw [HS.out] at e1
   rw [HQ.out] at e2
   have E1:=Lib.hid e1
   have E2:=Lib.hid e2
   clear e1 e2 hL
   go_wp2_with fail
   go_roundw
   case rel=>
    refine ⟨k+1,by omega,by go_num,?_,?_,?_,?_,?_,?_,?_,?_,?_,?_,?_,?_,?_⟩
    ·simp [go_sem,↓IntWalk.iteOmega, *]
    ·rw [E1.out];simp [go_sem,↓IntWalk.iteOmega, *]
    ·rw [E2.out];simp [go_sem,↓IntWalk.iteOmega, *]
    all_goals first | (simp [go_sem,↓IntWalk.iteOmega, *];done) | (simp only [World.size_setCell];omega) | exact (by repeat (first | (with_reducible exact Below.refl _ _) | (with_reducible refine bAl ?_ _) | (with_reducible refine bSc ?_ _) | (with_reducible refine Below.drew ?_) | (with_reducible exact bel)))
   case measure=>simp [intOf];omega
  ·obtain rfl:k=n:=by omega
   have e1:=HS.out
   have e2:=HQ.out
   rw [List.take_of_length_le (by omega)] at e1 e2
   have E1:=Lib.hid e1
   have E2:=Lib.hid e2
   clear e1 e2 hL
   go_wp2_with fail
   refine bodyPost_ret (v:=.tuple #[.agg #[.int .i64 k,.int .i64 S,.int .i64 Q],.int .i64 0]) (by simp [results,Tryz.results109,go_sem,↓IntWalk.iteOmega, *]) rfl ?_
   exact ⟨by rw [← Hs.out,← Hq.out,E1.out,E2.out],(by repeat (first | (with_reducible exact Below.refl _ _) | (with_reducible refine bAl ?_ _) | (with_reducible refine bSc ?_ _) | (with_reducible refine Below.drew ?_) | (with_reducible exact bel)))⟩
end Go.Proofs.YtnaebigoknfndaaGreatDoor
namespace Go.Proofs.YtnaebigoknfndaaGreatDoor
open Go Go.RowKit
section
variable {P:Program} {ops:Array Oper} {Q:Exit→Act→World→Prop} {md:Region.Mode} {S:World→Prop} {D:Nat→Bool}
def wpAnyM (P:Program) (md:Region.Mode) (ops:Array Oper) (Q:Exit→Act→World→Prop) (S:World→Prop) (D:Nat→Bool):Nat→Array Bool→Act→World→Prop
 | 0,listed,a,w=>Region.ready md ops listed = []∧Q .normal a w
 | fuel+1,listed,a,w=>
  (Region.ready md ops listed = []→Q .normal a w) ∧
  ∀ i∈Region.ready md ops listed,wpOp P ops Q i (fun a' w'=>(D i=false→S w')∧wpAnyM P md ops Q S D fuel (listed.setIfInBounds i true) a' w') a w
theorem wpAny_of_M:∀ (fuel:Nat) (listed:Array Bool) (a:Act) (w:World),wpAnyM P md ops Q S D fuel listed a w→wpAny P md ops Q fuel listed a w
 | 0,_,_,_,h=>h
 | fuel+1,_,_,_,h=>⟨h.1,fun i hi=>wpOp_mono (fun a' w' h'=>wpAny_of_M fuel _ a' w' h'.2) (h.2 i hi)⟩
def Closed (md:Region.Mode) (ops:Array Oper) (listed:Array Bool):Prop:=∀ j oj,ops[j]? = some oj→listed.getD j false=true→∀ e∈oj.after,Region.binds md e=true→listed.getD e.on false=true
def closedB (md:Region.Mode) (ops:Array Oper) (listed:Array Bool):Bool:=(List.range ops.size).all fun j=>!listed.getD j false || (match ops[j]? with | some oj=>oj.after.all fun e=>!Region.binds md e || listed.getD e.on false | none=>true)
theorem closed_of {listed:Array Bool} (h:closedB md ops listed=true):Closed md ops listed:=by
 intro j oj hoj hl e he hb
 have hlt:j<ops.size:=(Array.getElem?_eq_some_iff.1 hoj).1
 have h1:=List.all_eq_true.1 h j (List.mem_range.2 hlt)
 simp only [hl,Bool.not_true,Bool.false_or,hoj] at h1
 have h2:=(Array.all_eq_true_iff_forall_mem.1 h1) e he
 simpa [hb] using h2
theorem Closed.set {i:Nat} {listed:Array Bool} (inv:Closed md ops listed) (hi:i∈Region.ready md ops listed):Closed md ops (listed.setIfInBounds i true):=by
 obtain ⟨_,oi,hoi,hall⟩:=mem_ready.1 hi
 intro j oj hj hl e he hb
 by_cases hij:i=j
 ·subst hij
  have:oj=oi:=Option.some.inj (hj.symm.trans hoi)
  subst this
  exact getD_set_true (hall e he hb)
 ·rw [getD_set_ne false hij] at hl
  exact getD_set_true (inv j oj hj hl e he hb)
def reachB (md:Region.Mode) (ops:Array Oper):Nat→Nat→Nat→Bool
 | 0,_,_=>false
 | f+1,j,i=>Region.waitsFor md ops j i || (List.range ops.size).any fun k=>Region.waitsFor md ops j k && reachB md ops f k i
theorem reach_listed {i:Nat} {listed:Array Bool} (inv:Closed md ops listed):∀ (f j:Nat),listed.getD j false=true→reachB md ops f j i=true→listed.getD i false=true:=by
 intro f
 induction f with
 | zero=>intro j _ h;simp [reachB] at h
 | succ f ih=>
  intro j hj h
  simp only [reachB,Bool.or_eq_true] at h
  rcases h with h | h
  ·obtain ⟨oj,hoj,e,he,hb,hon⟩:=Region.waitsFor_spec h
   rw [← hon]
   exact inv j oj hoj hj e he hb
  ·obtain ⟨k,_,hk⟩:=List.any_eq_true.1 h
   simp only [Bool.and_eq_true] at hk
   obtain ⟨oj,hoj,e,he,hb,hon⟩:=Region.waitsFor_spec hk.1
   refine ih k ?_ hk.2
   rw [← hon]
   exact inv j oj hoj hj e he hb
def waitB (md:Region.Mode) (ops:Array Oper) (D:Nat→Bool) (i:Nat):Bool:=(List.range ops.size).all fun j=>!D j || reachB md ops ops.size j i
theorem waitB_spec {i j:Nat} {listed:Array Bool} (inv:Closed md ops listed) (h:waitB md ops D i=true) (hj:j∈Region.ready md ops listed) (hi:i∈Region.ready md ops listed):D j=false:=by
 obtain ⟨hjun,oj,hoj,hall⟩:=mem_ready.1 hj
 have hlt:j<ops.size:=(Array.getElem?_eq_some_iff.1 hoj).1
 have h0:=getD_both (mem_ready.1 hi).1
 cases hD:D j with
 | false=>rfl
 | true=>
  exfalso
  have h1:=List.all_eq_true.1 h j (List.mem_range.2 hlt)
  simp only [hD,Bool.not_true,Bool.false_or] at h1
  cases hs:ops.size with
  | zero=>omega
  | succ f=>
   rw [hs] at h1
   simp only [reachB,Bool.or_eq_true] at h1
   rcases h1 with h1 | h1
   ·obtain ⟨o',ho',e,he,hb,hon⟩:=Region.waitsFor_spec h1
    have:o'=oj:=Option.some.inj (ho'.symm.trans hoj)
    subst this
    have h2:=hall e he hb
    rw [hon,h0] at h2
    cases h2
   ·obtain ⟨k,_,hk⟩:=List.any_eq_true.1 h1
    simp only [Bool.and_eq_true] at hk
    obtain ⟨o',ho',e,he,hb,hon⟩:=Region.waitsFor_spec hk.1
    have:o'=oj:=Option.some.inj (ho'.symm.trans hoj)
    subst this
    have h2:=hall e he hb
    rw [hon] at h2
    have h3:=reach_listed inv f k h2 hk.2
    rw [h0] at h3
    cases h3
theorem wpAnyM_first {i:Nat} {oi:Oper} {v:Value} (hi:ops[i]? = some oi) (hsel:∀ (j:Nat) (o:Oper) cs b,ops[j]? = some o→o.op≠.select cs b) (hD:waitB md ops D i=true)
  (hQ:∀ c a w,Q (.panic c) (a.put oi.dst v) w→Q (.panic c) a w) :
  ∀ (fuel:Nat) (listed:Array Bool) (a:Act) (w:World),Closed md ops listed →
   (∀ j oj,ops[j]? = some oj→j≠i→listed.getD j true=false→(∀ e∈oj.after,Region.binds md e=true→e.on≠i)→oi.apart ops oj=true) →
   i∈Region.ready md ops listed→YieldsIf P ops S oi v a→S w →
   wpAnyM P md ops Q S D fuel (listed.setIfInBounds i true) (a.put oi.dst v) w→wpAnyM P md ops Q S D (fuel+1) listed a w:=by
 intro fuel
 induction fuel with
 | zero=>
  intro listed a w _ _ hr hy hS H
  refine ⟨fun h=>(by rw [h] at hr;cases hr),fun j hj=>?_⟩
  by_cases hji:j=i
  ·subst hji;exact hy.wpOp hi hS ⟨fun _=>hS,H⟩
  ·have:=ready_mono hj hji
   rw [H.1] at this
   cases this
 | succ fuel ih=>
  intro listed a w inv hfree hr hy hS H
  refine ⟨fun h=>(by rw [h] at hr;cases hr),fun j hj=>?_⟩
  by_cases hji:j=i
  ·subst hji;exact hy.wpOp hi hS ⟨fun _=>hS,H⟩
  ·have hDj:=waitB_spec inv hD hj hr
   have h1:=H.2 j (ready_mono hj hji)
   obtain ⟨hjun,oj,hoj,hall⟩:=mem_ready.1 hj
   have hnot:∀ e∈oj.after,Region.binds md e=true→e.on≠i:=fun e he hb heq=>by
    have h1:=hall e he hb
    have h0:=(mem_ready.1 hr).1
    rw [heq,getD_both h0] at h1
    cases h1
   have h2:=wpOp_putIf (S:=S) hoj (hfree j oj hoj hji hjun hnot) (fun cs b=>hsel i oi cs b hi) (fun cs b=>hsel j oj cs b hoj) hQ hy h1
   have hfree':∀ k ok,ops[k]? = some ok→k≠i→(listed.setIfInBounds j true).getD k true=false →
     (∀ e∈ok.after,Region.binds md e=true→e.on≠i)→oi.apart ops ok=true:=fun k ok hk hki hun hno=>by
    refine hfree k ok hk hki ?_ hno
    by_cases hjk:j=k
    ·subst hjk;exact hjun
    ·rw [getD_set_ne true hjk] at hun;exact hun
   refine wpOp_mono (fun a' w' h3=>⟨h3.2.1,ih (listed.setIfInBounds j true) a' w' (inv.set hj) hfree' (ready_mono hr (Ne.symm hji)) h3.1 (h3.2.1 hDj) ?_⟩) h2
   rw [Array.setIfInBounds_comm _ _ hji]
   exact h3.2.2
theorem wpAnyM_take {i:Nat} {oi:Oper} {v:Value} {fuel:Nat} {listed:Array Bool} {a:Act} {w:World} (hi:ops[i]? = some oi)
  (hs:Region.noSelect ops=true) (hf:Region.free md ops listed i=true) (hr:(Region.ready md ops listed).contains i=true) (hD:(waitB md ops D i && closedB md ops listed)=true)
  (hQ:∀ c a w,Q (.panic c) (a.put oi.dst v) w→Q (.panic c) a w) (hy:YieldsIf P ops S oi v a) (hS:S w)
  (h:wpAnyM P md ops Q S D fuel (listed.setIfInBounds i true) (a.put oi.dst v) w):wpAnyM P md ops Q S D (fuel+1) listed a w:=
 wpAnyM_first hi (Region.noSelect_spec hs) (by simp only [Bool.and_eq_true] at hD;exact hD.1) hQ fuel listed a w (closed_of (by simp only [Bool.and_eq_true] at hD;exact hD.2)) (Region.free_spec hi hf) (by simpa using hr) hy hS h
theorem wpAnyM_one {i:Nat} {o:Oper} {fuel:Nat} {listed:Array Bool} {a:Act} {w:World} (hr:Region.ready md ops listed = [i]) (ho:ops[i]? = some o)
  (h:∀ K':Act→World→Prop,(∀ a w,(D i=false→S w)→wpAnyM P md ops Q S D fuel (listed.setIfInBounds i true) a w→K' a w)→if Region.wanted o (yielded ops a.tmps)=true then Oper.wp P o a w K' Q else K' (a.put o.dst undef) w) :
  wpAnyM P md ops Q S D (fuel+1) listed a w:=by
 refine ⟨fun h0=>(by rw [hr] at h0;cases h0),fun j hj=>?_⟩
 rw [hr] at hj
 obtain rfl:j=i:=by simpa using hj
 exact wpOp_step ho (fun K' hK=>h K' (fun a w hS hW=>hK a w ⟨hS,hW⟩))
theorem wpAnyM_two {i j:Nat} {o o':Oper} {fuel:Nat} {listed:Array Bool} {a:Act} {w:World} (hr:Region.ready md ops listed = [i,j]) (ho:ops[i]? = some o) (ho':ops[j]? = some o')
  (h:∀ K':Act→World→Prop,(∀ a w,(D i=false→S w)→wpAnyM P md ops Q S D fuel (listed.setIfInBounds i true) a w→K' a w)→if Region.wanted o (yielded ops a.tmps)=true then Oper.wp P o a w K' Q else K' (a.put o.dst undef) w)
  (h':∀ K':Act→World→Prop,(∀ a w,(D j=false→S w)→wpAnyM P md ops Q S D fuel (listed.setIfInBounds j true) a w→K' a w)→if Region.wanted o' (yielded ops a.tmps)=true then Oper.wp P o' a w K' Q else K' (a.put o'.dst undef) w) :
  wpAnyM P md ops Q S D (fuel+1) listed a w:=by
 refine ⟨fun h0=>(by rw [hr] at h0;cases h0),fun k hk=>?_⟩
 rw [hr] at hk
 simp only [List.mem_cons,List.not_mem_nil,or_false] at hk
 rcases hk with rfl | rfl
 ·exact wpOp_step ho (fun K' hK=>h K' (fun a w hS hW=>hK a w ⟨hS,hW⟩))
 ·exact wpOp_step ho' (fun K' hK=>h' K' (fun a w hS hW=>hK a w ⟨hS,hW⟩))
theorem wpAnyM_done {listed:Array Bool} {a:Act} {w:World} (hr:Region.ready md ops listed = []) (h:Q .normal a w) :
  ∀ fuel,wpAnyM P md ops Q S D fuel listed a w
 | 0=>⟨hr,h⟩
 | _+1=>⟨fun _=>h,by rw [hr];simp⟩
theorem wp_region_M {id:Nat} {l:List Oper} {a:Act} {w:World} (S:World→Prop) (D:Nat→Bool) (n:Nat) (hn:l.length=n) (hm:P.follows .mixedOrders=true)
  (h:wpAnyM P .any l.toArray Q S D n (Array.replicate n false) a w.drew):(Code.region id l.toArray true).wp P Q a w:=by
 refine wp_region_any hm ?_
 rw [show l.toArray.size=n from hn]
 exact wpAny_of_M _ _ _ _ h
theorem wp_region_A {id:Nat} {l:List Oper} {a:Act} {w:World} (n:Nat) (hn:l.length=n) (hm:P.follows .mixedOrders=true)
  (h:wpAny P .any l.toArray Q n (Array.replicate n false) a w.drew):(Code.region id l.toArray true).wp P Q a w:=by
 refine wp_region_any hm ?_
 rw [show l.toArray.size=n from hn]
 exact h
def restB (ops:Array Oper) (D:Nat→Bool) (listed:Array Bool):Bool:=(List.range ops.size).all fun j=>listed.getD j true || D j
theorem restB_set {listed:Array Bool} {i:Nat} (h:restB ops D listed=true):restB ops D (listed.setIfInBounds i true)=true:=by
 refine List.all_eq_true.2 fun j hj=>?_
 have h1:=List.all_eq_true.1 h j hj
 by_cases hij:i=j
 ·subst hij
  rcases Nat.lt_or_ge i listed.size with c | c
  ·simp [Array.getD,c]
  ·simp [Array.getD,Nat.not_lt.2 c]
 ·rw [getD_set_ne true hij];exact h1
theorem wpAnyM_rest:∀ {fuel:Nat} {listed:Array Bool} {a:Act} {w:World},restB ops D listed=true→wpAny P md ops Q fuel listed a w→wpAnyM P md ops Q S D fuel listed a w
 | 0,_,_,_,_,h=>h
 | fuel+1,listed,a,w,hr,h=>⟨h.1,fun i hi=>wpOp_mono (fun a' w' h'=>⟨fun hD=>(by
    have hi':=(mem_ready.1 hi).1
    obtain ⟨_,oi,hoi,_⟩:=mem_ready.1 hi
    have hlt:i<ops.size:=(Array.getElem?_eq_some_iff.1 hoi).1
    have h1:=List.all_eq_true.1 hr i (List.mem_range.2 hlt)
    rw [hi',hD] at h1
    cases h1),wpAnyM_rest (restB_set hr) h'⟩) (h.2 i hi)⟩
end
theorem wpAnyM_tk {P : Program} {md : Region.Mode} {ops : Array Oper} {Q : Exit → Act → World → Prop} {S : World → Prop} {D : Nat → Bool} {i : Nat} {oi : Oper} {v : Value} {fuel : Nat} {listed : Array Bool} {a : Act} {w : World} (hi : ops[i]? = some oi)
  (hy : YieldsIf P ops S oi v a) (hS : S w) (h : wpAnyM P md ops Q S D fuel (listed.setIfInBounds i true) (a.put oi.dst v) w)
  (hs : Region.noSelect ops = true := by kernel_rfl) (hf : Region.free md ops listed i = true := by kernel_rfl) (hr : (Region.ready md ops listed).contains i = true := by kernel_rfl) (hD : (waitB md ops D i && closedB md ops listed) = true := by kernel_rfl)
  (hQ : ∀ c a w, Q (.panic c) (a.put oi.dst v) w → Q (.panic c) a w := by exact (fun _ _ _ h => h)) : wpAnyM P md ops Q S D (fuel + 1) listed a w := wpAnyM_take hi hs hf hr hD hQ hy hS h
end Go.Proofs.YtnaebigoknfndaaGreatDoor
