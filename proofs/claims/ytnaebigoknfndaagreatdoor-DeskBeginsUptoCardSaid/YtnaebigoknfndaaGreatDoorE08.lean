/- What the desk's two laws lean on: part 08 (contracts and plain laws; their conditions stand in each). -/
import Derived.Test.YtnaebigoknfndaaGreatDoorE01
import Derived.Test.YtnaebigoknfndaaGreatDoorE04
import Derived.Test.YtnaebigoknfndaaGreatDoorE02
import Derived.BigQuiet
import Derived.Test.YtnaebigoknfndaaGreatDoorE07
import Derived.Laws.CopyOwn
import Derived.WalkKit
import Derived.Lib.Hide
import Derived.Deep.RegionLaw
import Derived.Lib.AppendZerosOnto
import Derived.Lib.Overlaps
import Derived.Lib.Slices
set_option linter.unusedVariables false
set_option linter.unusedSimpArgs false
set_option maxRecDepth 100000
set_option maxHeartbeats 20000000
namespace Go.Proofs.YtnaebigoknfndaaGreatDoor
open Go.RowKit
def PeerAt (w:World) (b o:Nat) (p:Peer) (f:Nat→Prop):Prop:=
 w.cell? ⟨b,o,none⟩=some (.string p.id)∧w.cell? ⟨b,o+1,none⟩=some (.int .i64 p.inc)∧w.cell? ⟨b,o+2,none⟩=some (.int .i64 p.seq)∧w.cell? ⟨b,o+3,none⟩=some (.int .i64 p.drops) ∧
 w.cell? ⟨b,o+4,none⟩=some (.int .i64 p.cap)∧w.cell? ⟨b,o+6,none⟩=some (.int .i64 p.last) ∧
 ∃ A c,w.cell? ⟨b,o+5,none⟩=some (.slice A p.vals.length c)∧InRow w A p.vals.length c p.vals∧∀ g off,A=some ⟨g,off,none⟩→f g
def PRow (w:World) (A:Option Addr) (n:Nat) (L:List Peer) (f:Nat→Prop):Prop:=
 L.length=n∧(0<n→∃ b off,A=some ⟨b,off,none⟩∧b<w.heap.size∧f b∧∀ k,k<n→PeerAt w b (off+k * 7) (L.getD k default) f)
def Same (f:Nat→Prop) (w w':World):Prop:=w.heap.size≤w'.heap.size∧∀ b,b<w.heap.size→f b→w'.heap[b]? = w.heap[b]?
theorem Same.of_below {f:Nat→Prop} {w w':World} (h:Below w.heap.size w w'):Same f w w':=⟨h.size,fun b hb _=>h.block b hb⟩
theorem cell_same {w w':World} {b o:Nat} (e:w'.heap[b]? = w.heap[b]?):w'.cell? ⟨b,o,none⟩=w.cell? ⟨b,o,none⟩:=World.cell?_of_block (w:=w) (w':=w') e
theorem Row.same {f:Nat→Prop} {w w':World} {A:Option Addr} {n:Nat} {l:List Int} (h:Row w A n l) (hf:∀ g off,A=some ⟨g,off,none⟩→f g) (hs:Same f w w'):Row w' A n l:=by
 refine ⟨h.1,fun hn=>?_⟩
 obtain ⟨b,off,e,lt,hc⟩:=h.2 hn
 refine ⟨b,off,e,Nat.lt_of_lt_of_le lt hs.1,fun k hk=>?_⟩
 rw [cell_same (hs.2 b lt (hf b off e))]
 exact hc k hk
theorem InRow.same {f:Nat→Prop} {w w':World} {A:Option Addr} {n c:Nat} {l:List Int} (h:InRow w A n c l) (hf:∀ g off,A=some ⟨g,off,none⟩→f g) (hs:Same f w w'):InRow w' A n c l:=⟨h.1.same hf hs,h.2⟩
theorem PeerAt.same {f:Nat→Prop} {w w':World} {b o:Nat} {p:Peer} (h:PeerAt w b o p f) (hb:b<w.heap.size) (hf:f b) (hs:Same f w w'):PeerAt w' b o p f:=by
 obtain ⟨h0,h1,h2,h3,h4,h6,A,c,h5,hr,hg⟩:=h
 have e:=hs.2 b hb hf
 exact ⟨(cell_same e).trans h0,(cell_same e).trans h1,(cell_same e).trans h2,(cell_same e).trans h3,(cell_same e).trans h4,(cell_same e).trans h6,A,c,(cell_same e).trans h5,hr.same hg hs,hg⟩
theorem PRow.same {f:Nat→Prop} {w w':World} {A:Option Addr} {n:Nat} {L:List Peer} (h:PRow w A n L f) (hs:Same f w w'):PRow w' A n L f:=by
 refine ⟨h.1,fun hn=>?_⟩
 obtain ⟨b,off,e,lt,hf,hc⟩:=h.2 hn
 exact ⟨b,off,e,Nat.lt_of_lt_of_le lt hs.1,hf,fun k hk=>(hc k hk).same lt hf hs⟩
theorem PeerAt.imp {f g:Nat→Prop} {w:World} {b o:Nat} {p:Peer} (h:PeerAt w b o p f) (hi:∀ x,f x→g x):PeerAt w b o p g:=by
 obtain ⟨h0,h1,h2,h3,h4,h6,A,c,h5,hr,hg⟩:=h
 exact ⟨h0,h1,h2,h3,h4,h6,A,c,h5,hr,fun g' off e=>hi _ (hg g' off e)⟩
theorem PRow.imp {f g:Nat→Prop} {w:World} {A:Option Addr} {n:Nat} {L:List Peer} (h:PRow w A n L f) (hi:∀ x,f x→g x):PRow w A n L g:=by
 refine ⟨h.1,fun hn=>?_⟩
 obtain ⟨b,off,e,lt,hf,hc⟩:=h.2 hn
 exact ⟨b,off,e,lt,hi _ hf,fun k hk=>(hc k hk).imp hi⟩
theorem PRow.below {f:Nat→Prop} {w w':World} {A:Option Addr} {n:Nat} {L:List Peer} (h:PRow w A n L f) (hb:Below w.heap.size w w'):PRow w' A n L f:=h.same (Same.of_below hb)
theorem PRow.nil (w:World) (A:Option Addr) (f:Nat→Prop):PRow w A 0 [] f:=⟨rfl,fun h=>absurd h (by omega)⟩
theorem PRow.at {f:Nat→Prop} {w:World} {A:Option Addr} {n:Nat} {L:List Peer} (h:PRow w A n L f) {k:Nat} (hk:k<n):∃ b off,A=some ⟨b,off,none⟩∧b<w.heap.size∧f b∧PeerAt w b (off+k * 7) (L.getD k default) f:=by
 obtain ⟨b,off,e,lt,hf,hc⟩:=h.2 (by omega)
 exact ⟨b,off,e,lt,hf,hc k hk⟩
def Good (L:List Peer) (k:Nat):Prop:=∀ j,j<k→PeerOK (L.getD j default)∧(0<j→sl (L.getD (j - 1) default).id (L.getD j default).id=true)
theorem pair_adj {L:List Peer} (h:∀ j,j<L.length→0<j→sl (L.getD (j - 1) default).id (L.getD j default).id=true):L.Pairwise (fun p q=>sl p.id q.id=true):=by
 rw [List.pairwise_iff_getElem]
 intro i j hi hj hij
 have hg:∀ k (hk:k<L.length),L.getD k default=L[k]:=fun k hk=>by simp [List.getD_eq_getElem?_getD,hk]
 induction j with
 | zero=>omega
 | succ j ih=>
  have h1:=h (j+1) hj (by omega)
  rw [show j+1 - 1=j by omega,hg j (by omega),hg (j+1) hj] at h1
  rcases Nat.lt_or_ge i j with c | c
  ·exact sl_trans (ih (by omega) c) h1
  ·obtain rfl:i=j:=by omega
   exact h1
theorem good_tab {L:List Peer} (hl:L.length≤6) (h:Good L L.length):TabOK L:=by
 refine ⟨hl,fun p hp=>?_,pair_adj fun j hj h0=>(h j hj).2 h0⟩
 obtain ⟨k,hk,rfl⟩:=List.getElem_of_mem hp
 have:=(h k hk).1
 simpa [List.getD_eq_getElem?_getD,hk] using this
theorem tab_good {L:List Peer} (h:TabOK L):Good L L.length:=by
 have hg:∀ k (hk:k<L.length),L.getD k default=L[k]:=fun k hk=>by simp [List.getD_eq_getElem?_getD,hk]
 intro j hj
 refine ⟨by rw [hg j hj];exact h.each _ (List.getElem_mem _),fun h0=>?_⟩
 rw [hg _ (by omega),hg j hj]
 exact List.pairwise_iff_getElem.1 h.order _ _ (by omega) hj (by omega)
theorem wcheck_bad (z:Int) (A:Option Addr) (n c:Nat) (l:List Int) (w:World) (hr:Row w A n l) (hm:n≤9223372036854775807) (hb:¬ WinOK z l) :
  Calls Tryz.prog 146 #[.agg #[.int .i64 z,.slice A n c]] w fun e w'=>(∃ k:Int,(k != 0)=true∧e=.returned (.int .i64 k))∧Below w.heap.size w w':=by
 have hl:=hr.1
 have qa:=alloc_cells
 have qf:=alloc_frozens
 have HR:=Lib.hid hr
 by_cases h1:z<1
 ·clear hr hb
  go_enter Tryz.func146,Tryz.ntmps146
  go_wp2_with fail
  go_ret
  exact ⟨⟨1,by decide,rfl⟩,(by repeat (first | (with_reducible exact Below.refl _ _) | (with_reducible refine bAl ?_ _) | (with_reducible refine bSc ?_ _) | (with_reducible refine Below.drew ?_) | (refine Below.trans ?_ (by assumption))))⟩
 ·by_cases h2:64<z
  ·clear hr hb
   go_enter Tryz.func146,Tryz.ntmps146
   go_wp2_with fail
   go_ret
   exact ⟨⟨1,by decide,rfl⟩,(by repeat (first | (with_reducible exact Below.refl _ _) | (with_reducible refine bAl ?_ _) | (with_reducible refine bSc ?_ _) | (with_reducible refine Below.drew ?_) | (refine Below.trans ?_ (by assumption))))⟩
  ·by_cases h3:z<(n:Int)
   ·clear hr hb
    go_enter Tryz.func146,Tryz.ntmps146
    go_wp2_with fail
    go_ret
    exact ⟨⟨2,by decide,rfl⟩,(by repeat (first | (with_reducible exact Below.refl _ _) | (with_reducible refine bAl ?_ _) | (with_reducible refine bSc ?_ _) | (with_reducible refine Below.drew ?_) | (refine Below.trans ?_ (by assumption))))⟩
   ·have hv:¬ Btw 0 16777216 l:=fun h=>hb ⟨by omega,by omega,by omega,h⟩
    have HC:=Lib.hid (fun w' (h:Row w' A n l)=>list_bad A n c l w' h (by omega) hv)
    clear hr hb hv
    go_enter Tryz.func146,Tryz.ntmps146
    go_wp2_with fail
    refine (HC.out _ (HR.out.below (by repeat (first | (with_reducible exact Below.refl _ _) | (with_reducible refine bAl ?_ _) | (with_reducible refine bSc ?_ _) | (with_reducible refine Below.drew ?_) | (refine Below.trans ?_ (by assumption)))))).mono ?_
    rintro e w' ⟨rfl,rfl⟩
    go_wp2_with fail
    go_ret
    exact ⟨⟨1,by decide,rfl⟩,(by repeat (first | (with_reducible exact Below.refl _ _) | (with_reducible refine bAl ?_ _) | (with_reducible refine bSc ?_ _) | (with_reducible refine Below.drew ?_) | (refine Below.trans ?_ (by assumption))))⟩
end Go.Proofs.YtnaebigoknfndaaGreatDoor
namespace Go.Proofs.YtnaebigoknfndaaGreatDoor
open Go.RowKit
theorem pcheck_ok (A:Option Addr) (n c:Nat) (L:List Peer) (f:Nat→Prop) (w:World) (hr:PRow w A n L f) (h:TabOK L) :
  Calls Tryz.prog 170 #[.slice A n c] w fun e w'=>e=.returned (.int .i64 0)∧Below w.heap.size w w':=by
 have HR:=Lib.hid hr
 have hl:=hr.1
 have h6:=h.len
 have n6:¬ (6:Int)<n:=by omega
 have HG:=Lib.hid (tab_good h)
 have HI:=Lib.hid (fun s w' h=>id_ok s w' h)
 have HC:=Lib.hid (fun i s d w' h=>gcheck_ok i s d h w')
 have HW:=Lib.hid (fun z A n c l w' a b c' d=>wcheck_ok z A n c l w' a b c' d)
 clear hr h h6
 have qa:=alloc_cells
 have qf:=alloc_frozens
 go_enter Tryz.func170,Tryz.ntmps170
 go_wp2_with fail
 go_loopw [12] (fun i wr=>∃ k:Nat,k≤n∧i=.int .i64 k∧Below w.heap.size w wr) (fun i _=>n - (intOf i).toNat)
 case atStart=>exact ⟨0,Nat.zero_le _,rfl,(by repeat (first | (with_reducible exact Below.refl _ _) | (with_reducible refine bAl ?_ _) | (with_reducible refine bSc ?_ _) | (with_reducible refine Below.drew ?_) | (refine Below.trans ?_ (by assumption))))⟩
 case round=>
  obtain ⟨k,hk,rfl,bel⟩:=hrel
  by_cases hlt:k<n
  ·obtain ⟨b,off,rfl,lb,_,hp⟩:=(HR.out.below bel).at hlt
   obtain ⟨ok,hord⟩:=HG.out k (by omega)
   obtain ⟨p,hpk⟩:∃ p,L.getD k default=p:=⟨_,rfl⟩
   rw [hpk] at hp ok hord
   obtain ⟨k0,k1,k2,k3,k4,k6,B,cc,k5,hin,_⟩:=hp
   have HId:=Lib.hid (fun w'=>HI.out _ w' ok.id)
   have HGt:=Lib.hid (fun w'=>HC.out _ _ _ w' ok.gate)
   have HWn:=Lib.hid (fun w' h=>HW.out p.cap B p.vals.length cc p.vals w' h ⟨ok.win.1,ok.win.2.1⟩ ok.win.2.2.1 ok.win.2.2.2)
   obtain ⟨l1,l2⟩:=ok.last
   have l3:¬ p.last<0:=by omega
   have l4:¬ 1073741824<p.last:=by omega
   have HIn:=Lib.hid hin.1
   have B0:=Lib.hid bel
   have sz0:=bel.size
   by_cases k00:0<k
   ·obtain ⟨j,hj⟩:∃ j,k=j+1:=⟨k - 1,by omega⟩
    have hkj:IntKind.i64.wrap ((k:Int) - 1)=(j:Int):=by rw [IntWalk.i64_in _ (by omega)];omega
    have hjn:j<n:=by omega
    obtain ⟨b',off',e',_,_,hq⟩:=(HR.out.below bel).at hjn
    obtain ⟨rfl,rfl⟩:b=b'∧off=off':=by simp at e';exact e'
    obtain ⟨q0,_⟩:=hq
    have hs:=hord k00
    rw [show k - 1=j by omega] at hs
    obtain ⟨q,hqk⟩:∃ p,L.getD j default=p:=⟨_,rfl⟩
    rw [hqk] at hs q0
    unfold sl at hs
    have k0i:decide ((0:Int)<k)=true:=by simp;omega
    clear bel hin ok hord hpk hqk e' hj
    go_wp2_with fail
    refine (HId.out _).mono ?_
    rintro e w' ⟨rfl,rfl⟩
    go_wp2_with fail
    refine (HGt.out _).mono ?_
    rintro e w1 ⟨rfl,hb1⟩
    have z1:=hb1.size
    have c1:=Below.cells hb1
    have f1:=Below.frozens hb1
    try simp only [World.size_alloc,World.size_setCell,World.size_drew] at z1 c1 f1
    go_wp2_with fail
    refine (HWn.out _ (HIn.out.below (by repeat (first | (with_reducible exact Below.refl _ _) | (with_reducible refine bAl ?_ _) | (with_reducible refine bSc ?_ _) | (with_reducible refine Below.drew ?_) | (with_reducible refine bTm ?_ hb1))))).mono ?_
    rintro e w2 ⟨rfl,hb2⟩
    have z2:=hb2.size
    have c2:=Below.cells hb2
    have f2:=Below.frozens hb2
    try simp only [World.size_alloc,World.size_setCell,World.size_drew] at z2 c2 f2
    go_wp2_with fail
    refine wp_region_quiet_all (Ext _) (by kernel_rfl) (by kernel_rfl) (Ext.drawn _) ?_
    repeat (first | go_big_quiet_skip | go_big_quiet_step (fail) | (refine BigFrame.wpQuiet_want rfl (fun K hK=>?_);apply Exists.intro;refine ⟨fun w2 h2=>?_,?_⟩;(next=>(have g1:=Below.cells h2.below;have g2:=Below.frozens h2.below;(try simp only [World.size_alloc,World.size_setCell] at g1 g2);first | (go_simp;fail) | (simp [go_sem,↓IntWalk.iteOmega, *];done) | (simp [go_sem,↓IntWalk.iteOmega, *];rfl))));(go_simp;refine hK _ ?_;clear hK K))
    refine wpQuiet_nil ?_
    intro w3 h3
    have hb3:=h3.below
    clear h3
    have z3:=hb3.size
    have c3:=Below.cells hb3
    have f3:=Below.frozens hb3
    try simp only [World.size_alloc,World.size_setCell,World.size_drew] at z3 c3 f3
    go_wp2_with fail
    go_roundw
    case rel=>exact ⟨k+1,by omega,by go_num,B0.out.trans (Below.mono (by repeat (first | (with_reducible exact Below.refl _ _) | (with_reducible refine bAl ?_ _) | (with_reducible refine bSc ?_ _) | (with_reducible refine Below.drew ?_) | (with_reducible refine bTm ?_ hb3) | (with_reducible refine bTm ?_ hb2) | (with_reducible refine bTm ?_ hb1))) sz0)⟩
    case measure=>simp [intOf];omega
   ·have k0i:decide ((0:Int)<k)=false:=by simp;omega
    clear bel hin ok hord hpk
    go_wp2_with fail
    refine (HId.out _).mono ?_
    rintro e w' ⟨rfl,rfl⟩
    go_wp2_with fail
    refine (HGt.out _).mono ?_
    rintro e w1 ⟨rfl,hb1⟩
    have z1:=hb1.size
    have c1:=Below.cells hb1
    have f1:=Below.frozens hb1
    try simp only [World.size_alloc,World.size_setCell,World.size_drew] at z1 c1 f1
    go_wp2_with fail
    refine (HWn.out _ (HIn.out.below (by repeat (first | (with_reducible exact Below.refl _ _) | (with_reducible refine bAl ?_ _) | (with_reducible refine bSc ?_ _) | (with_reducible refine Below.drew ?_) | (with_reducible refine bTm ?_ hb1))))).mono ?_
    rintro e w2 ⟨rfl,hb2⟩
    have z2:=hb2.size
    have c2:=Below.cells hb2
    have f2:=Below.frozens hb2
    try simp only [World.size_alloc,World.size_setCell,World.size_drew] at z2 c2 f2
    go_wp2_with fail
    refine wp_region_quiet_all (Ext _) (by kernel_rfl) (by kernel_rfl) (Ext.drawn _) ?_
    repeat (first | go_big_quiet_skip | go_big_quiet_step (fail) | (refine BigFrame.wpQuiet_want rfl (fun K hK=>?_);apply Exists.intro;refine ⟨fun w2 h2=>?_,?_⟩;(next=>(have g1:=Below.cells h2.below;have g2:=Below.frozens h2.below;(try simp only [World.size_alloc,World.size_setCell] at g1 g2);first | (go_simp;fail) | (simp [go_sem,↓IntWalk.iteOmega, *];done) | (simp [go_sem,↓IntWalk.iteOmega, *];rfl))));(go_simp;refine hK _ ?_;clear hK K))
    refine wpQuiet_nil ?_
    intro w3 h3
    have hb3:=h3.below
    clear h3
    have z3:=hb3.size
    have c3:=Below.cells hb3
    have f3:=Below.frozens hb3
    try simp only [World.size_alloc,World.size_setCell,World.size_drew] at z3 c3 f3
    go_wp2_with fail
    go_roundw
    case rel=>exact ⟨k+1,by omega,by go_num,B0.out.trans (Below.mono (by repeat (first | (with_reducible exact Below.refl _ _) | (with_reducible refine bAl ?_ _) | (with_reducible refine bSc ?_ _) | (with_reducible refine Below.drew ?_) | (with_reducible refine bTm ?_ hb3) | (with_reducible refine bTm ?_ hb2) | (with_reducible refine bTm ?_ hb1))) sz0)⟩
    case measure=>simp [intOf];omega
  ·obtain rfl:n=k:=by omega
   go_wp2_with fail
   go_ret
   exact ⟨rfl,bel⟩
theorem pcheck_bad (A:Option Addr) (n c:Nat) (L:List Peer) (f:Nat→Prop) (w:World) (hr:PRow w A n L f) (hn:n≤9223372036854775807) (hz:∀ k,k<n→(L.getD k default).id.size≤9223372036854775807) (h:¬ TabOK L) :
  Calls Tryz.prog 170 #[.slice A n c] w fun e w'=>(∃ k:Int,(k != 0)=true∧e=.returned (.int .i64 k))∧Below w.heap.size w w':=by
 have hl:=hr.1
 by_cases h6:n≤6
 ·have HR:=Lib.hid hr
  have n6:¬ (6:Int)<n:=by omega
  have HG:=Lib.hid (fun h'=>h (good_tab (by omega) h'))
  have HZ:=Lib.hid hz
  have HI:=Lib.hid (fun s w' h=>id_ok s w' h)
  have HC:=Lib.hid (fun i s d w' h=>gcheck_ok i s d h w')
  have HW:=Lib.hid (fun z A n c l w' a b c' d=>wcheck_ok z A n c l w' a b c' d)
  have HIb:=Lib.hid (fun s w' hm h=>id_bad s w' hm h)
  have HCb:=Lib.hid (fun i s d w' h=>gcheck_bad i s d h w')
  have HWb:=Lib.hid (fun z A n c l w' a b h=>wcheck_bad z A n c l w' a b h)
  clear hr h hz
  have qa:=alloc_cells
  have qf:=alloc_frozens
  go_enter Tryz.func170,Tryz.ntmps170
  go_wp2_with fail
  go_loopw [12] (fun i wr=>∃ k:Nat,k≤n∧i=.int .i64 k∧Good L k∧Below w.heap.size w wr) (fun i _=>n - (intOf i).toNat)
  case atStart=>exact ⟨0,Nat.zero_le _,rfl,fun j hj=>absurd hj (by omega),(by repeat (first | (with_reducible exact Below.refl _ _) | (with_reducible refine bAl ?_ _) | (with_reducible refine bSc ?_ _) | (with_reducible refine Below.drew ?_) | (refine Below.trans ?_ (by assumption))))⟩
  case round=>
   obtain ⟨k,hk,rfl,hgood,bel⟩:=hrel
   by_cases hlt:k<n
   ·obtain ⟨b,off,rfl,lb,_,hp⟩:=(HR.out.below bel).at hlt
    obtain ⟨p,hpk⟩:∃ p,L.getD k default=p:=⟨_,rfl⟩
    have hpz:=HZ.out k hlt
    rw [hpk] at hp hpz
    obtain ⟨k0,k1,k2,k3,k4,k6,B,cc,k5,hin,_⟩:=hp
    have HIn:=Lib.hid hin.1
    have hvl:p.vals.length≤9223372036854775807:=by have:=hin.2.1;have:=hin.2.2.1;unfold maxLen at this;omega
    have B0:=Lib.hid bel
    have HGo:=Lib.hid hgood
    have HPk:=Lib.hid hpk
    have sz0:=bel.size
    clear bel hin hgood hpk
    by_cases ci:IdOK (byts p.id)
    ·have HId:=Lib.hid (fun w'=>HI.out _ w' ci)
     have HCi:=Lib.hid ci
     clear ci
     by_cases cg:GateOK p.inc p.seq p.drops
     ·have HGt:=Lib.hid (fun w'=>HC.out _ _ _ w' cg)
      have HCg:=Lib.hid cg
      clear cg
      by_cases cw:WinOK p.cap p.vals
      ·have HWn:=Lib.hid (fun w' h=>HW.out p.cap B p.vals.length cc p.vals w' h ⟨cw.1,cw.2.1⟩ cw.2.2.1 cw.2.2.2)
       have HCw:=Lib.hid cw
       clear cw
       by_cases l1:p.last<0
       ·go_wp2_with fail
        refine (HId.out _).mono ?_
        rintro e w' ⟨rfl,rfl⟩
        go_wp2_with fail
        refine (HGt.out _).mono ?_
        rintro e w1 ⟨rfl,hb1⟩
        have z1:=hb1.size
        have c1:=Below.cells hb1
        have f1:=Below.frozens hb1
        try simp only [World.size_alloc,World.size_setCell,World.size_drew] at z1 c1 f1
        go_wp2_with fail
        refine (HWn.out _ (HIn.out.below (by repeat (first | (with_reducible exact Below.refl _ _) | (with_reducible refine bAl ?_ _) | (with_reducible refine bSc ?_ _) | (with_reducible refine Below.drew ?_) | (with_reducible refine bTm ?_ hb1))))).mono ?_
        rintro e w2 ⟨rfl,hb2⟩
        have z2:=hb2.size
        have c2:=Below.cells hb2
        have f2:=Below.frozens hb2
        try simp only [World.size_alloc,World.size_setCell,World.size_drew] at z2 c2 f2
        go_wp2_with fail
        go_ret
        exact ⟨⟨1,by decide,rfl⟩,B0.out.trans (Below.mono (by repeat (first | (with_reducible exact Below.refl _ _) | (with_reducible refine bAl ?_ _) | (with_reducible refine bSc ?_ _) | (with_reducible refine Below.drew ?_) | (with_reducible refine bTm ?_ hb2) | (with_reducible refine bTm ?_ hb1))) sz0)⟩
       ·by_cases l2:1073741824<p.last
        ·go_wp2_with fail
         refine (HId.out _).mono ?_
         rintro e w' ⟨rfl,rfl⟩
         go_wp2_with fail
         refine (HGt.out _).mono ?_
         rintro e w1 ⟨rfl,hb1⟩
         have z1:=hb1.size
         have c1:=Below.cells hb1
         have f1:=Below.frozens hb1
         try simp only [World.size_alloc,World.size_setCell,World.size_drew] at z1 c1 f1
         go_wp2_with fail
         refine (HWn.out _ (HIn.out.below (by repeat (first | (with_reducible exact Below.refl _ _) | (with_reducible refine bAl ?_ _) | (with_reducible refine bSc ?_ _) | (with_reducible refine Below.drew ?_) | (with_reducible refine bTm ?_ hb1))))).mono ?_
         rintro e w2 ⟨rfl,hb2⟩
         have z2:=hb2.size
         have c2:=Below.cells hb2
         have f2:=Below.frozens hb2
         try simp only [World.size_alloc,World.size_setCell,World.size_drew] at z2 c2 f2
         go_wp2_with fail
         go_ret
         exact ⟨⟨1,by decide,rfl⟩,B0.out.trans (Below.mono (by repeat (first | (with_reducible exact Below.refl _ _) | (with_reducible refine bAl ?_ _) | (with_reducible refine bSc ?_ _) | (with_reducible refine Below.drew ?_) | (with_reducible refine bTm ?_ hb2) | (with_reducible refine bTm ?_ hb1))) sz0)⟩
        ·have HOk:=Lib.hid (show PeerOK p from ⟨HCi.out,HCg.out,HCw.out,by omega,by omega⟩)
         by_cases k00:0<k
         ·obtain ⟨j,hj⟩:∃ j,k=j+1:=⟨k - 1,by omega⟩
          have hkj:IntKind.i64.wrap ((k:Int) - 1)=(j:Int):=by rw [IntWalk.i64_in _ (by omega)];omega
          have hjn:j<n:=by omega
          obtain ⟨b',off',e',_,_,hq⟩:=(HR.out.below B0.out).at hjn
          obtain ⟨rfl,rfl⟩:b=b'∧off=off':=by simp at e';exact e'
          obtain ⟨q0,_⟩:=hq
          obtain ⟨q,hqk⟩:∃ p,L.getD j default=p:=⟨_,rfl⟩
          rw [hqk] at q0
          have k0i:decide ((0:Int)<k)=true:=by simp;omega
          by_cases co:sl q.id p.id=true
          ·have HNx:=Lib.hid (show Good L (k+1) from fun i hi=>by
            rcases Nat.lt_or_ge i k with c | c
            ·exact HGo.out i c
            ·obtain rfl:i=k:=by omega
             refine ⟨by rw [HPk.out];exact HOk.out,fun _=>?_⟩
             rw [show i - 1=j by omega,hqk,HPk.out];exact co)
           have hs:Op.bytesLess q.id.toList p.id.toList=true:=co
           clear co hqk e' hj
           go_wp2_with fail
           refine (HId.out _).mono ?_
           rintro e w' ⟨rfl,rfl⟩
           go_wp2_with fail
           refine (HGt.out _).mono ?_
           rintro e w1 ⟨rfl,hb1⟩
           have z1:=hb1.size
           have c1:=Below.cells hb1
           have f1:=Below.frozens hb1
           try simp only [World.size_alloc,World.size_setCell,World.size_drew] at z1 c1 f1
           go_wp2_with fail
           refine (HWn.out _ (HIn.out.below (by repeat (first | (with_reducible exact Below.refl _ _) | (with_reducible refine bAl ?_ _) | (with_reducible refine bSc ?_ _) | (with_reducible refine Below.drew ?_) | (with_reducible refine bTm ?_ hb1))))).mono ?_
           rintro e w2 ⟨rfl,hb2⟩
           have z2:=hb2.size
           have c2:=Below.cells hb2
           have f2:=Below.frozens hb2
           try simp only [World.size_alloc,World.size_setCell,World.size_drew] at z2 c2 f2
           go_wp2_with fail
           refine wp_region_quiet_all (Ext _) (by kernel_rfl) (by kernel_rfl) (Ext.drawn _) ?_
           repeat (first | go_big_quiet_skip | go_big_quiet_step (fail) | (refine BigFrame.wpQuiet_want rfl (fun K hK=>?_);apply Exists.intro;refine ⟨fun w2 h2=>?_,?_⟩;(next=>(have g1:=Below.cells h2.below;have g2:=Below.frozens h2.below;(try simp only [World.size_alloc,World.size_setCell] at g1 g2);first | (go_simp;fail) | (simp [go_sem,↓IntWalk.iteOmega, *];done) | (simp [go_sem,↓IntWalk.iteOmega, *];rfl))));(go_simp;refine hK _ ?_;clear hK K))
           refine wpQuiet_nil ?_
           intro w3 h3
           have hb3:=h3.below
           clear h3
           have z3:=hb3.size
           have c3:=Below.cells hb3
           have f3:=Below.frozens hb3
           try simp only [World.size_alloc,World.size_setCell,World.size_drew] at z3 c3 f3
           go_wp2_with fail
           go_roundw
           case rel=>exact ⟨k+1,by omega,by go_num,HNx.out,B0.out.trans (Below.mono (by repeat (first | (with_reducible exact Below.refl _ _) | (with_reducible refine bAl ?_ _) | (with_reducible refine bSc ?_ _) | (with_reducible refine Below.drew ?_) | (with_reducible refine bTm ?_ hb3) | (with_reducible refine bTm ?_ hb2) | (with_reducible refine bTm ?_ hb1))) sz0)⟩
           case measure=>simp [intOf];omega
          ·have hs:Op.bytesLess q.id.toList p.id.toList=false:=by simpa [sl] using co
           clear co hqk e' hj
           go_wp2_with fail
           refine (HId.out _).mono ?_
           rintro e w' ⟨rfl,rfl⟩
           go_wp2_with fail
           refine (HGt.out _).mono ?_
           rintro e w1 ⟨rfl,hb1⟩
           have z1:=hb1.size
           have c1:=Below.cells hb1
           have f1:=Below.frozens hb1
           try simp only [World.size_alloc,World.size_setCell,World.size_drew] at z1 c1 f1
           go_wp2_with fail
           refine (HWn.out _ (HIn.out.below (by repeat (first | (with_reducible exact Below.refl _ _) | (with_reducible refine bAl ?_ _) | (with_reducible refine bSc ?_ _) | (with_reducible refine Below.drew ?_) | (with_reducible refine bTm ?_ hb1))))).mono ?_
           rintro e w2 ⟨rfl,hb2⟩
           have z2:=hb2.size
           have c2:=Below.cells hb2
           have f2:=Below.frozens hb2
           try simp only [World.size_alloc,World.size_setCell,World.size_drew] at z2 c2 f2
           go_wp2_with fail
           refine wp_region_quiet_all (Ext _) (by kernel_rfl) (by kernel_rfl) (Ext.drawn _) ?_
           repeat (first | go_big_quiet_skip | go_big_quiet_step (fail) | (refine BigFrame.wpQuiet_want rfl (fun K hK=>?_);apply Exists.intro;refine ⟨fun w2 h2=>?_,?_⟩;(next=>(have g1:=Below.cells h2.below;have g2:=Below.frozens h2.below;(try simp only [World.size_alloc,World.size_setCell] at g1 g2);first | (go_simp;fail) | (simp [go_sem,↓IntWalk.iteOmega, *];done) | (simp [go_sem,↓IntWalk.iteOmega, *];rfl))));(go_simp;refine hK _ ?_;clear hK K))
           refine wpQuiet_nil ?_
           intro w3 h3
           have hb3:=h3.below
           clear h3
           have z3:=hb3.size
           have c3:=Below.cells hb3
           have f3:=Below.frozens hb3
           try simp only [World.size_alloc,World.size_setCell,World.size_drew] at z3 c3 f3
           go_wp2_with fail
           go_ret
           exact ⟨⟨3,by decide,rfl⟩,B0.out.trans (Below.mono (by repeat (first | (with_reducible exact Below.refl _ _) | (with_reducible refine bAl ?_ _) | (with_reducible refine bSc ?_ _) | (with_reducible refine Below.drew ?_) | (with_reducible refine bTm ?_ hb3) | (with_reducible refine bTm ?_ hb2) | (with_reducible refine bTm ?_ hb1))) sz0)⟩
         ·have k0i:decide ((0:Int)<k)=false:=by simp;omega
          have HNx:=Lib.hid (show Good L (k+1) from fun i hi=>by
           rcases Nat.lt_or_ge i k with c | c
           ·exact HGo.out i c
           ·obtain rfl:i=k:=by omega
            exact ⟨by rw [HPk.out];exact HOk.out,fun h=>absurd h (by omega)⟩)
          go_wp2_with fail
          refine (HId.out _).mono ?_
          rintro e w' ⟨rfl,rfl⟩
          go_wp2_with fail
          refine (HGt.out _).mono ?_
          rintro e w1 ⟨rfl,hb1⟩
          have z1:=hb1.size
          have c1:=Below.cells hb1
          have f1:=Below.frozens hb1
          try simp only [World.size_alloc,World.size_setCell,World.size_drew] at z1 c1 f1
          go_wp2_with fail
          refine (HWn.out _ (HIn.out.below (by repeat (first | (with_reducible exact Below.refl _ _) | (with_reducible refine bAl ?_ _) | (with_reducible refine bSc ?_ _) | (with_reducible refine Below.drew ?_) | (with_reducible refine bTm ?_ hb1))))).mono ?_
          rintro e w2 ⟨rfl,hb2⟩
          have z2:=hb2.size
          have c2:=Below.cells hb2
          have f2:=Below.frozens hb2
          try simp only [World.size_alloc,World.size_setCell,World.size_drew] at z2 c2 f2
          go_wp2_with fail
          refine wp_region_quiet_all (Ext _) (by kernel_rfl) (by kernel_rfl) (Ext.drawn _) ?_
          repeat (first | go_big_quiet_skip | go_big_quiet_step (fail) | (refine BigFrame.wpQuiet_want rfl (fun K hK=>?_);apply Exists.intro;refine ⟨fun w2 h2=>?_,?_⟩;(next=>(have g1:=Below.cells h2.below;have g2:=Below.frozens h2.below;(try simp only [World.size_alloc,World.size_setCell] at g1 g2);first | (go_simp;fail) | (simp [go_sem,↓IntWalk.iteOmega, *];done) | (simp [go_sem,↓IntWalk.iteOmega, *];rfl))));(go_simp;refine hK _ ?_;clear hK K))
          refine wpQuiet_nil ?_
          intro w3 h3
          have hb3:=h3.below
          clear h3
          have z3:=hb3.size
          have c3:=Below.cells hb3
          have f3:=Below.frozens hb3
          try simp only [World.size_alloc,World.size_setCell,World.size_drew] at z3 c3 f3
          go_wp2_with fail
          go_roundw
          case rel=>exact ⟨k+1,by omega,by go_num,HNx.out,B0.out.trans (Below.mono (by repeat (first | (with_reducible exact Below.refl _ _) | (with_reducible refine bAl ?_ _) | (with_reducible refine bSc ?_ _) | (with_reducible refine Below.drew ?_) | (with_reducible refine bTm ?_ hb3) | (with_reducible refine bTm ?_ hb2) | (with_reducible refine bTm ?_ hb1))) sz0)⟩
          case measure=>simp [intOf];omega
      ·have HWn:=Lib.hid (fun w' h=>HWb.out p.cap B p.vals.length cc p.vals w' h hvl cw)
       clear cw
       go_wp2_with fail
       refine (HId.out _).mono ?_
       rintro e w' ⟨rfl,rfl⟩
       go_wp2_with fail
       refine (HGt.out _).mono ?_
       rintro e w1 ⟨rfl,hb1⟩
       have z1:=hb1.size
       have c1:=Below.cells hb1
       have f1:=Below.frozens hb1
       try simp only [World.size_alloc,World.size_setCell,World.size_drew] at z1 c1 f1
       go_wp2_with fail
       refine (HWn.out _ (HIn.out.below (by repeat (first | (with_reducible exact Below.refl _ _) | (with_reducible refine bAl ?_ _) | (with_reducible refine bSc ?_ _) | (with_reducible refine Below.drew ?_) | (with_reducible refine bTm ?_ hb1))))).mono ?_
       rintro e w2 ⟨⟨kk,hkk,rfl⟩,hb2⟩
       have z2:=hb2.size
       try simp only [World.size_alloc,World.size_setCell,World.size_drew] at z2
       go_wp2_with fail
       go_ret
       exact ⟨⟨kk,hkk,rfl⟩,B0.out.trans (Below.mono (by repeat (first | (with_reducible exact Below.refl _ _) | (with_reducible refine bAl ?_ _) | (with_reducible refine bSc ?_ _) | (with_reducible refine Below.drew ?_) | (with_reducible refine bTm ?_ hb2) | (with_reducible refine bTm ?_ hb1))) sz0)⟩
     ·have HGt:=Lib.hid (fun w'=>HCb.out _ _ _ w' cg)
      clear cg
      go_wp2_with fail
      refine (HId.out _).mono ?_
      rintro e w' ⟨rfl,rfl⟩
      go_wp2_with fail
      refine (HGt.out _).mono ?_
      rintro e w1 ⟨rfl,hb1⟩
      have z1:=hb1.size
      have c1:=Below.cells hb1
      have f1:=Below.frozens hb1
      try simp only [World.size_alloc,World.size_setCell,World.size_drew] at z1 c1 f1
      go_wp2_with fail
      go_ret
      exact ⟨⟨1,by decide,rfl⟩,B0.out.trans (Below.mono (by repeat (first | (with_reducible exact Below.refl _ _) | (with_reducible refine bAl ?_ _) | (with_reducible refine bSc ?_ _) | (with_reducible refine Below.drew ?_) | (with_reducible refine bTm ?_ hb1))) sz0)⟩
    ·have HId:=Lib.hid (fun w'=>HIb.out _ w' hpz ci)
     clear ci
     go_wp2_with fail
     refine (HId.out _).mono ?_
     rintro e w' ⟨rfl,rfl⟩
     go_wp2_with fail
     go_ret
     exact ⟨⟨3,by decide,rfl⟩,B0.out.trans (Below.mono (by repeat (first | (with_reducible exact Below.refl _ _) | (with_reducible refine bAl ?_ _) | (with_reducible refine bSc ?_ _) | (with_reducible refine Below.drew ?_) | (refine Below.trans ?_ (by assumption)))) sz0)⟩
   ·obtain rfl:n=k:=by omega
    rw [← hl] at hgood
    exact absurd hgood HG.out
 ·have n6:(6:Int)<n:=by omega
  clear hr h hz
  have qa:=alloc_cells
  have qf:=alloc_frozens
  go_enter Tryz.func170,Tryz.ntmps170
  go_wp2_with fail
  go_ret
  exact ⟨⟨2,by decide,rfl⟩,(by repeat (first | (with_reducible exact Below.refl _ _) | (with_reducible refine bAl ?_ _) | (with_reducible refine bSc ?_ _) | (with_reducible refine Below.drew ?_) | (refine Below.trans ?_ (by assumption))))⟩
end Go.Proofs.YtnaebigoknfndaaGreatDoor
namespace Go.Proofs.YtnaebigoknfndaaGreatDoor
open Go.RowKit
theorem cmpB_lt:∀ a b:List UInt8,Lib.compareBytes a b<0↔Op.bytesLess a b=true
 | [],[]=>by simp [Lib.compareBytes,Op.bytesLess]
 | [],_ :: _=>by simp [Lib.compareBytes,Op.bytesLess]
 | _ :: _,[]=>by simp [Lib.compareBytes,Op.bytesLess]
 | x :: a,y :: b=>by
   have ih:=cmpB_lt a b
   unfold Lib.compareBytes Op.bytesLess
   rcases u8_tri x y with h | rfl | h
   ·simp [h]
   ·simp [ih]
   ·have h1:¬ x<y:=fun h'=>absurd (UInt8.lt_trans h h') (by simp)
    have h2:x≠y:=fun e=>by subst e;exact absurd h (by simp)
    simp [h,h1,h2]
theorem cmpB_eq:∀ a b:List UInt8,Lib.compareBytes a b=0↔a=b
 | [],[]=>by simp [Lib.compareBytes]
 | [],_ :: _=>by simp [Lib.compareBytes]
 | _ :: _,[]=>by simp [Lib.compareBytes]
 | x :: a,y :: b=>by
   have ih:=cmpB_eq a b
   unfold Lib.compareBytes
   rcases u8_tri x y with h | rfl | h
   ·have h2:x≠y:=fun e=>by subst e;exact absurd h (by simp)
    simp [h,h2]
   ·simp [ih]
   ·have h1:¬ x<y:=fun h'=>absurd (UInt8.lt_trans h h') (by simp)
    have h2:x≠y:=fun e=>by subst e;exact absurd h (by simp)
    simp [h,h1,h2]
def cmpN (a b:ByteArray):Int:=Lib.compareBytes a.data.toList b.data.toList
theorem cmpN_lt (a b:ByteArray):cmpN a b<0↔sl a b=true:=by
 unfold cmpN sl;rw [cmpB_lt,ByteArray.toList_eq,ByteArray.toList_eq]
theorem cmpN_eq (a b:ByteArray):cmpN a b=0↔a=b:=by
 unfold cmpN;rw [cmpB_eq]
 exact ⟨fun h=>ByteArray.ext (Array.toList_inj.1 h),fun h=>by rw [h]⟩
theorem find1_ok (s id:ByteArray) (a b c d x:Int) (v:Value) (z:Int) (hz:cmpN s id=z) (w:World) (hv:v.oneCell'=true) :
  Calls Tryz.prog 201 #[.agg #[.string s,.int .i64 a,.int .i64 b,.int .i64 c,.int .i64 d,v,.int .i64 x],.string id] w fun e w'=>e=.returned (.int .i64 z)∧Below w.heap.size w w':=by
 have HS:=Lib.hid (fun w'=>Tryz.strings_Compare s id w')
 rw [show Lib.compareBytes s.data.toList id.data.toList=z from hz] at HS
 have qa:=alloc_cells
 have qf:=alloc_frozens
 go_enter Tryz.func201,Tryz.ntmps201
 go_wp2_with fail
 refine (HS.out _).mono ?_
 rintro e w' ⟨rfl,rfl⟩
 go_wp2_with fail
 go_ret
 exact ⟨rfl,(by repeat (first | (with_reducible exact Below.refl _ _) | (with_reducible refine bAl ?_ _) | (with_reducible refine bSc ?_ _) | (with_reducible refine Below.drew ?_) | (refine Below.trans ?_ (by assumption))))⟩
theorem bsearch_ok (A:Option Addr) (n c:Nat) (L:List Peer) (f:Nat→Prop) (id:ByteArray) (w:World) (hr:PRow w A n L f) (hn:n≤1000) (ho:L.Pairwise (fun p q=>sl p.id q.id=true)) :
  Calls Tryz.prog 200 #[.slice A n c,.string id,.func (.func 201) #[] #[]] w fun e w'=>e=.returned (.tuple #[.int .i64 (pos L id),.bool (has L id)])∧Below w.heap.size w w':=by
 have HR:=Lib.hid hr
 have hl:=hr.1
 have hp:=pos_le L id
 have HLo:=Lib.hid (fun k (h:k<pos L id)=>pos_lo h)
 have HHi:=Lib.hid (fun k (h:pos L id≤k) (hk:k<L.length)=>pos_hi ho h hk)
 have HHas:=Lib.hid (show has L id=(decide (pos L id<L.length) && decide ((L.getD (pos L id) default).id=id)) from rfl)
 obtain ⟨P,hP⟩:∃ P,pos L id=P:=⟨_,rfl⟩
 obtain ⟨H,hH⟩:∃ H,has L id=H:=⟨_,rfl⟩
 rw [hP] at hp HLo HHi HHas ⊢
 rw [hH] at HHas ⊢
 have HF:=Lib.hid find1_ok
 clear hr ho hP hH
 have qa:=alloc_cells
 have qf:=alloc_frozens
 go_enter Tryz.func200,Tryz.ntmps200
 go_wp2_with fail
 go_loopw [9,10] (fun i j wr=>∃ (a b:Nat),a≤P∧P≤b∧b≤n∧i=.int .i64 a∧j=.int .i64 b∧Below w.heap.size w wr) (fun i j _=>(intOf j).toNat - (intOf i).toNat)
 case atStart=>exact ⟨0,n,Nat.zero_le _,by omega,Nat.le_refl _,rfl,rfl,(by repeat (first | (with_reducible exact Below.refl _ _) | (with_reducible refine bAl ?_ _) | (with_reducible refine bSc ?_ _) | (with_reducible refine Below.drew ?_) | (refine Below.trans ?_ (by assumption))))⟩
 case round=>
  obtain ⟨i,j,hi,hj,hjn,rfl,rfl,bel⟩:=hrel
  by_cases hij:i<j
  ·obtain ⟨m,hm⟩:∃ m,(i+j) / 2=m:=⟨_,rfl⟩
   have hmn:m<n:=by omega
   obtain ⟨b,off,rfl,lb,_,hpk⟩:=(HR.out.below bel).at hmn
   obtain ⟨p,hpe⟩:∃ p,L.getD m default=p:=⟨_,rfl⟩
   rw [hpe] at hpk
   obtain ⟨k0,k1,k2,k3,k4,k6,B,cc,k5,hin,_⟩:=hpk
   have sz0:=bel.size
   obtain ⟨z,hz⟩:∃ z,cmpN p.id id=z:=⟨_,rfl⟩
   have HZ:=Lib.hid hz
   have HPe:=Lib.hid hpe
   have B0:=Lib.hid bel
   have hsum:((i:Int)+j) / 2=(m:Int):=by omega
   have u1:IntKind.i64.wrap ((i:Int)+j)=((i+j:Nat):Int):=by rw [IntWalk.i64_in _ (by omega)];omega
   have u2:IntKind.u64.wrap ((i+j:Nat):Int)=((i+j:Nat):Int):=IntWalk.u64_in _ (by omega)
   clear bel hin hz hpe
   by_cases hz0:z<0
   ·have hs:sl p.id id=true:=(cmpN_lt _ _).1 (by rw [HZ.out];exact hz0)
    have hmP:m<P:=by
     rcases Nat.lt_or_ge m P with h | h
     ·exact h
     ·have:=HHi.out m h (by omega)
      rw [HPe.out,hs] at this;cases this
    clear hs
    go_wp2_with fail
    refine (HF.out _ _ _ _ _ _ _ _ z HZ.out _ rfl).mono ?_
    rintro e w1 ⟨rfl,hb1⟩
    have z1:=hb1.size
    have c1:=Below.cells hb1
    have f1:=Below.frozens hb1
    try simp only [World.size_alloc,World.size_setCell,World.size_drew] at z1 c1 f1
    go_wp2_with fail
    go_roundw
    case rel=>exact ⟨m+1,j,by omega,by omega,by omega,by go_num,by go_num,B0.out.trans (Below.mono hb1 sz0)⟩
    case measure=>simp [intOf];omega
   ·have hs:¬ sl p.id id=true:=fun h=>hz0 (by rw [← HZ.out];exact (cmpN_lt _ _).2 h)
    have hmP:P≤m:=by
     rcases Nat.lt_or_ge m P with h | h
     ·have:=HLo.out m h
      rw [HPe.out] at this
      exact absurd this hs
     ·exact h
    clear hs
    go_wp2_with fail
    refine (HF.out _ _ _ _ _ _ _ _ z HZ.out _ rfl).mono ?_
    rintro e w1 ⟨rfl,hb1⟩
    have z1:=hb1.size
    have c1:=Below.cells hb1
    have f1:=Below.frozens hb1
    try simp only [World.size_alloc,World.size_setCell,World.size_drew] at z1 c1 f1
    go_wp2_with fail
    go_roundw
    case rel=>exact ⟨i,m,by omega,by omega,by omega,by go_num,by go_num,B0.out.trans (Below.mono hb1 sz0)⟩
    case measure=>simp [intOf];omega
  ·obtain rfl:i=P:=by omega
   obtain rfl:j=i:=by omega
   by_cases hlt:j<n
   ·obtain ⟨b,off,rfl,lb,_,hpk⟩:=(HR.out.below bel).at hlt
    obtain ⟨p,hpe⟩:∃ p,L.getD j default=p:=⟨_,rfl⟩
    rw [hpe] at hpk
    obtain ⟨k0,k1,k2,k3,k4,k6,B,cc,k5,hin,_⟩:=hpk
    have sz0:=bel.size
    obtain ⟨z,hz⟩:∃ z,cmpN p.id id=z:=⟨_,rfl⟩
    have HZ:=Lib.hid hz
    have B0:=Lib.hid bel
    have hH:H=(z==0):=by
     rw [HHas.out,hpe,hl,decide_eq_true hlt,Bool.true_and,← hz]
     rcases Bool.eq_false_or_eq_true (cmpN p.id id==0) with h | h
     ·rw [h];exact decide_eq_true ((cmpN_eq _ _).1 (by simpa using h))
     ·rw [h];exact decide_eq_false (fun e=>by rw [(cmpN_eq _ _).2 e] at h;cases h)
    have hd:decide ((j:Int)<n)=true:=by simp;omega
    have HHz:=Lib.hid hH
    clear bel hin hz hpe hH
    go_wp2_with fail
    refine (HF.out _ _ _ _ _ _ _ _ z HZ.out _ rfl).mono ?_
    rintro e w1 ⟨rfl,hb1⟩
    have z1:=hb1.size
    have c1:=Below.cells hb1
    have f1:=Below.frozens hb1
    try simp only [World.size_alloc,World.size_setCell,World.size_drew] at z1 c1 f1
    go_wp2_with fail
    go_ret2
    exact ⟨by rw [HHz.out];rfl,B0.out.trans (Below.mono hb1 sz0)⟩
   ·have hH:H=false:=by rw [HHas.out,hl,decide_eq_false hlt,Bool.false_and]
    have hd:decide ((j:Int)<n)=false:=by simp;omega
    have HHz:=Lib.hid hH
    clear hH
    go_wp2_with fail
    go_ret2
    exact ⟨by rw [HHz.out];rfl,bel⟩
theorem find_ok (A:Option Addr) (n c:Nat) (L:List Peer) (f:Nat→Prop) (id:ByteArray) (w:World) (hr:PRow w A n L f) (hn:n≤1000) (ho:L.Pairwise (fun p q=>sl p.id q.id=true)) :
  Calls Tryz.prog 171 #[.slice A n c,.string id] w fun e w'=>e=.returned (.tuple #[.int .i64 (pos L id),.bool (has L id)])∧Below w.heap.size w w':=by
 have HB:=Lib.hid (bsearch_ok A n c L f id w hr hn ho)
 clear hr ho
 obtain ⟨P,hP⟩:∃ P,pos L id=P:=⟨_,rfl⟩
 obtain ⟨H,hH⟩:∃ H,has L id=H:=⟨_,rfl⟩
 rw [hP,hH] at HB ⊢
 clear hP hH
 go_enter Tryz.func171,Tryz.ntmps171
 go_wp2_with fail
 refine (HB.out).mono ?_
 rintro e w1 ⟨rfl,hb1⟩
 have z1:=hb1.size
 have c1:=Below.cells hb1
 have f1:=Below.frozens hb1
 try simp only [World.size_alloc,World.size_setCell,World.size_drew] at z1 c1 f1
 go_wp2_with fail
 go_ret2
 exact ⟨rfl,hb1⟩
end Go.Proofs.YtnaebigoknfndaaGreatDoor
namespace Go.Proofs.YtnaebigoknfndaaGreatDoor
open Go Go.RowKit
section
variable {P:Program}
theorem run_copy_rowK (w:World) (dT sT ty elem:TypeId) (size g o dLen dCap:Nat) (a:Addr) (sLen sCap:Nat) (cur:Array Value) (t:TypeId) (cs:List Value)
  (hu:P.underlying dT=some (.slice elem)) (hs:(P.info? elem).map (·.size)=some size)
  (hg:w.heap[g]? = some (.cells cur t (0,0))) (hn:cs.length=Nat.min sLen dLen * size)
  (hsrc:∀ j v,cs[j]? = some v→w.cell? (a.add j)=some v) (hfit:o+cs.length≤cur.size) (h1:∀ v∈cs,v.oneCell'=true) :
  (Builtin.copy_ #[dT,sT] ty #[.slice (some ⟨g,o,none⟩) dLen dCap,.slice (some a) sLen sCap]).run P w =
    .ok (goInt (Nat.min sLen dLen)) (w.setRow g (cur.toList.take o++cs++cur.toList.drop (o+cs.length)).toArray):=by
 have hl:=run_loadCells_list (P:=P) w a cs hsrc
 have hst:=run_storeCells_at P g o t cs 0 cur w hg (by simpa using hfit) h1
 cases hq:P.info? elem with
 | none=>simp [hq] at hs
 | some i=>
  have hi:i.size=size:=by simpa [hq] using hs
  simp [Builtin.copy_,run_underlying hu,Builtin.lenOf,Builtin.firstCells,sizeOf,typeInfo,hq,hi,← hn,hl,hst]
theorem run_copy_noneK (w:World) (dT sT ty elem:TypeId) (size:Nat) (d a:Option Addr) (dLen dCap sLen sCap:Nat) (hu:P.underlying dT=some (.slice elem)) (hs:(P.info? elem).map (·.size)=some size) (hn:Nat.min sLen dLen=0) :
  (Builtin.copy_ #[dT,sT] ty #[.slice d dLen dCap,.slice a sLen sCap]).run P w=.ok (goInt 0) w:=by
 cases hq:P.info? elem with
 | none=>simp [hq] at hs
 | some i=>
  have hl:∀ (x:Addr),(loadCells x 0).run P w=.ok #[] w:=fun x=>by simpa using run_loadCells_list (P:=P) w x [] (by simp)
  cases d <;> cases a <;> simp [Builtin.copy_,run_underlying hu,Builtin.lenOf,Builtin.firstCells,sizeOf,typeInfo,hq,hn,storeCells,hl]
theorem run_copy_spliceK (w:World) (dT sT ty elem:TypeId) (size:Nat) (hsz:0<size) (hu:P.underlying dT=some (.slice elem)) (hs:(P.info? elem).map (·.size)=some size)
  (dp sp:Option Addr) (dLen dCap sLen sCap:Nat) (g off:Nat) (cur:List Value) (t:TypeId) (hg:w.heap[g]? = some (.cells cur.toArray t (0,0))) (cs:List Value) (hn:cs.length=Nat.min sLen dLen * size)
  (hpos:0<cs.length→dp=some ⟨g,off,none⟩∧∃ ad,sp=some ad∧∀ j v,cs[j]? = some v→w.cell? (ad.add j)=some v)
  (hfit:off+cs.length≤cur.length) (h1:∀ v∈cs,v.oneCell'=true) :
  ∃ w',(Builtin.copy_ #[dT,sT] ty #[.slice dp dLen dCap,.slice sp sLen sCap]).run P w=.ok (goInt (Nat.min sLen dLen)) w'∧w'.heap[g]? = some (.cells (splice cur off cs).toArray t (0,0))∧w'.heap.size=w.heap.size∧w'.os=w.os∧w'.tape=w.tape∧w'.output=w.output∧∀ k,k≠g→w'.heap[k]? = w.heap[k]?:=by
 by_cases h0:cs.length=0
 ·obtain rfl:cs = []:=List.eq_nil_of_length_eq_zero h0
  have h00:Nat.min sLen dLen=0:=by
   rcases Nat.eq_zero_or_pos (Nat.min sLen dLen) with h | h
   ·exact h
   ·have:=Nat.mul_pos h hsz
    simp only [List.length_nil] at hn;omega
  refine ⟨w,by rw [h00];exact run_copy_noneK w dT sT ty elem size dp sp dLen dCap sLen sCap hu hs h00,by simpa [splice] using hg,rfl,rfl,rfl,rfl,fun _ _=>rfl⟩
 ·obtain ⟨rfl,ad,rfl,hsrc⟩:=hpos (by omega)
  refine ⟨_,run_copy_rowK w dT sT ty elem size g off dLen dCap ad sLen sCap cur.toArray t cs hu hs hg hn hsrc (by simpa using hfit) h1,?_,by simp [World.setRow],rfl,rfl,rfl,fun k hk=>setRow_other w g k _ hk⟩
  simpa [splice] using setRow_heap w g _ _ t _ hg
structure OnlyAt (g:Nat) (w w':World):Prop where
 size:w'.heap.size=w.heap.size
 os:w'.os=w.os
 tape:w'.tape=w.tape
 output:w'.output=w.output
 block:∀ k,k≠g→w'.heap[k]? = w.heap[k]?
theorem OnlyAt.below {g B:Nat} {w w':World} (h:OnlyAt g w w') (hb:B≤g):Below B w w':=⟨h.os,h.tape,h.output,Nat.le_of_eq h.size.symm,fun k hk=>h.block k (by omega)⟩
theorem OnlyAt.grown {g:Nat} {w w':World} (h:OnlyAt g w w'):w.grownBy w' (some g):=⟨h.os,h.tape,h.output,Nat.le_of_eq h.size.symm,fun k _ hk=>h.block k (fun e=>hk (by rw [e]))⟩
theorem wpList_copy_spliceK {w:World} {ops:Array Oper} {rest:List Oper} {o:Oper} {a:Act} {Q:Exit→Act→World→Prop} (hgd:o.guard=none) (d s:Operand) (dT sT:TypeId)
  (ho:o.op=.call { callee:=.builtin .copy,args:=#[d,s],argTypes:=#[dT,sT] }) (elem:TypeId) (size:Nat) (hsz:0<size) (hu:P.underlying dT=some (.slice elem)) (hs':(P.info? elem).map (·.size)=some size)
  (dp sp:Option Addr) (dLen dCap sLen sCap:Nat) (hd:a.eval d=.slice dp dLen dCap) (hs:a.eval s=.slice sp sLen sCap)
  (g off:Nat) (cur:List Value) (t:TypeId) (hg:w.heap[g]? = some (.cells cur.toArray t (0,0))) (cs:List Value) (hn:cs.length=Nat.min sLen dLen * size)
  (hpos:0<cs.length→dp=some ⟨g,off,none⟩∧∃ ad,sp=some ad∧∀ j v,cs[j]? = some v→w.cell? (ad.add j)=some v)
  (hfit:off+cs.length≤cur.length) (h1:∀ v∈cs,v.oneCell'=true)
  (h:∀ w',Hid (w'.heap[g]? = some (.cells (splice cur off cs).toArray t (0,0)))→Hid (OnlyAt g w w')→wpList P ops Q rest (a.put o.dst (goInt (Nat.min sLen dLen))) w') :
  wpList P ops Q (o :: rest) a w:=by
 obtain ⟨w',hrun,h2,h3,h4,h5,h6,h7⟩:=run_copy_spliceK (P:=P) w dT sT o.type elem size hsz hu hs' dp sp dLen dCap sLen sCap g off cur t hg cs hn hpos hfit h1
 refine wpList_plain hgd fun K hK=>?_
 unfold Oper.wp
 simp [execOp,ho,resolve,invoke,builtin,hd,hs,hrun,Result.andThen]
 exact hK _ _ (h w' h2 ⟨h3,h4,h5,h6,h7⟩)
theorem step_copy_spliceK {ops:Array Oper} {o:Oper} {a:Act} {w:World} {K:Act→World→Prop} {Q:Exit→Act→World→Prop} {E:Prop} (hgd:o.guard=none) (d s:Operand) (dT sT:TypeId)
  (ho:o.op=.call { callee:=.builtin .copy,args:=#[d,s],argTypes:=#[dT,sT] }) (elem:TypeId) (size:Nat) (hsz:0<size) (hu:P.underlying dT=some (.slice elem)) (hs':(P.info? elem).map (·.size)=some size)
  (dp sp:Option Addr) (dLen dCap sLen sCap:Nat) (hd:a.eval d=.slice dp dLen dCap) (hs:a.eval s=.slice sp sLen sCap)
  (g off:Nat) (cur:List Value) (t:TypeId) (hg:w.heap[g]? = some (.cells cur.toArray t (0,0))) (cs:List Value) (hn:cs.length=Nat.min sLen dLen * size)
  (hpos:0<cs.length→dp=some ⟨g,off,none⟩∧∃ ad,sp=some ad∧∀ j v,cs[j]? = some v→w.cell? (ad.add j)=some v)
  (hfit:off+cs.length≤cur.length) (h1:∀ v∈cs,v.oneCell'=true)
  (h:∀ w',Hid (w'.heap[g]? = some (.cells (splice cur off cs).toArray t (0,0)))→Hid (OnlyAt g w w')→K (a.put o.dst (goInt (Nat.min sLen dLen))) w') :
  if Region.wanted o (yielded ops a.tmps)=true then Oper.wp P o a w K Q else E:=by
 have hw:Region.wanted o (yielded ops a.tmps)=true:=by simp [Region.wanted,hgd]
 rw [if_pos hw]
 obtain ⟨w',hrun,h2,h3,h4,h5,h6,h7⟩:=run_copy_spliceK (P:=P) w dT sT o.type elem size hsz hu hs' dp sp dLen dCap sLen sCap g off cur t hg cs hn hpos hfit h1
 unfold Oper.wp
 simp [execOp,ho,resolve,invoke,builtin,hd,hs,hrun,Result.andThen]
 exact h w' h2 ⟨h3,h4,h5,h6,h7⟩
def zeros (z:Array Value) (n:Nat):List Value:=(Builtin.zeroCells z n).toList
theorem zeros_len (z:Array Value) (n:Nat):(zeros z n).length=n * z.size:=by simp [zeros,Builtin.zeroCells]
theorem zeros_one {z:Array Value} (h:∀ v∈z,v.oneCell'=true) (h0:0<z.size) (n:Nat):∀ v∈zeros z n,v.oneCell'=true:=by
 intro v hv
 simp only [zeros,Builtin.zeroCells,Array.toList_map,List.mem_map] at hv
 obtain ⟨i,_,rfl⟩:=hv
 rw [getElem!_pos z (i % z.size) (Nat.mod_lt _ h0)]
 exact h _ (Array.getElem_mem _)
theorem run_clear_splice (w:World) (dT ty elem:TypeId) (z:Value) (size:Nat) (hu:P.underlying dT=some (.slice elem)) (hv:∀ w,(zeroValue elem).run P w=.ok z w) (hz:z.cells.size=size)
  (hz1:∀ v∈z.cells,v.oneCell'=true) (h0:0<size) (dp:Option Addr) (n c:Nat)
  (g off:Nat) (cur:List Value) (t:TypeId) (hg:w.heap[g]? = some (.cells cur.toArray t (0,0))) (hp:0<n→dp=some ⟨g,off,none⟩) (hfit:off+n * size≤cur.length) :
  ∃ w',(∀ ty,(Builtin.clear_ #[dT] ty #[.slice dp n c]).run P w=.ok (.tuple #[]) w')∧w'.heap[g]? = some (.cells (splice cur off (zeros z.cells n)).toArray t (0,0))∧OnlyAt g w w':=by
 rcases Nat.eq_zero_or_pos n with h' | h'
 ·subst h'
  refine ⟨w,fun ty=>by cases dp <;> simp [Builtin.clear_,run_underlying hu],by rw [hg];simp [splice,zeros,Builtin.zeroCells],⟨rfl,rfl,rfl,rfl,fun _ _=>rfl⟩⟩
 ·obtain rfl:=hp h'
  have hst:=run_storeCells_at P g off t (zeros z.cells n) 0 cur.toArray w hg (by rw [zeros_len,hz];simpa using hfit) (zeros_one hz1 (by omega) n)
  refine ⟨w.setRow g (splice cur off (zeros z.cells n)).toArray,fun ty=>?_,setRow_heap w g _ _ t _ hg,⟨by simp [World.setRow],rfl,rfl,rfl,fun k hk=>setRow_other w g k _ hk⟩⟩
  obtain ⟨m,rfl⟩:∃ m,n=m+1:=⟨n - 1,by omega⟩
  unfold zeros at hst
  simp only [Nat.add_zero] at hst
  simp [Builtin.clear_,run_underlying hu,hv,hst,splice,zeros]
end
end Go.Proofs.YtnaebigoknfndaaGreatDoor
namespace Go.Proofs.YtnaebigoknfndaaGreatDoor
open Go.RowKit
def PV (w:World) (base:Nat) (p:Peer) (u:List Value):Prop:=
 ∃ v,u = [.string p.id,.int .i64 p.inc,.int .i64 p.seq,.int .i64 p.drops,.int .i64 p.cap,v,.int .i64 p.last]∧w.ownsRow base 3 1 v p.vals.length (p.vals.map (Value.int .i64))
def PVs (w:World) (base:Nat):List Peer→List Value→Prop
 | [],xs=>xs = []
 | p :: L,xs=>∃ u r,xs=u++r∧PV w base p u∧PVs w base L r
theorem PV.len {w:World} {base:Nat} {p:Peer} {u:List Value} (h:PV w base p u):u.length=7:=by
 obtain ⟨v,rfl,_⟩:=h;rfl
theorem PV.one {w:World} {base:Nat} {p:Peer} {u:List Value} (h:PV w base p u):∀ x∈u,x.oneCell'=true:=by
 obtain ⟨v,rfl,ho⟩:=h
 obtain ⟨A,c,rfl,_⟩:=own_form ho
 intro x hx
 simp at hx
 rcases hx with rfl | rfl | rfl | rfl | rfl | rfl | rfl <;> rfl
theorem PVs.len {w:World} {base:Nat}:∀ {L:List Peer} {xs:List Value},PVs w base L xs→xs.length=L.length * 7
 | [],xs,h=>by simp only [PVs] at h;subst h;rfl
 | p :: L,xs,h=>by
   obtain ⟨u,r,rfl,hu,hr⟩:=h
   have:=hu.len
   have:=hr.len
   simp;omega
theorem PVs.one {w:World} {base:Nat}:∀ {L:List Peer} {xs:List Value},PVs w base L xs→∀ x∈xs,x.oneCell'=true
 | [],xs,h=>by simp only [PVs] at h;subst h;intro x hx;cases hx
 | p :: L,xs,h=>by
   obtain ⟨u,r,rfl,hu,hr⟩:=h
   intro x hx
   rcases List.mem_append.1 hx with h' | h'
   ·exact hu.one x h'
   ·exact hr.one x h'
theorem PV.kept {w w':World} {base base':Nat} {p:Peer} {u:List Value} (h:PV w base p u) (hk:∀ v n xs,w.ownsRow base 3 1 v n xs→w'.ownsRow base' 3 1 v n xs):PV w' base' p u:=by
 obtain ⟨v,e,ho⟩:=h
 exact ⟨v,e,hk _ _ _ ho⟩
theorem PVs.kept {w w':World} {base base':Nat} (hk:∀ v n xs,w.ownsRow base 3 1 v n xs→w'.ownsRow base' 3 1 v n xs):∀ {L:List Peer} {xs:List Value},PVs w base L xs→PVs w' base' L xs
 | [],xs,h=>h
 | p :: L,xs,h=>by
   obtain ⟨u,r,e,hu,hr⟩:=h
   exact ⟨u,r,e,hu.kept hk,hr.kept hk⟩
theorem PVs.below {w w':World} {base:Nat} {L:List Peer} {xs:List Value} (h:PVs w base L xs) (hb:Below w.heap.size w w'):PVs w' base L xs:=h.kept fun _ _ _ ho=>own_below ho hb
theorem PVs.mono {w:World} {base base':Nat} {L:List Peer} {xs:List Value} (h:PVs w base L xs) (hb:base'≤base):PVs w base' L xs:=h.kept fun _ _ _ ho=>own_mono ho hb
theorem own_other {w w':World} {base g:Nat} {v:Value} {n s:Nat} {e T:TypeId} {xs:List Value} {cur:Array Value} {fz:Nat×Nat} (h:w.ownsRow base e s v n xs) (hg:w.heap[g]? = some (.cells cur T fz)) (hT:T≠e)
  (hs:∀ b,b<w.heap.size→b≠g→w'.heap[b]? = w.heap[b]?):w'.ownsRow base e s v n xs:=by
 refine ⟨h.1,?_⟩
 rcases h.2 with h | ⟨b,cap,cr,e1,hb,hc,r⟩
 ·exact .inl h
 ·refine .inr ⟨b,cap,cr,e1,hb,?_,r⟩
  rw [hs b (Array.getElem?_eq_some_iff.1 hc).1 (fun e=>by subst e;rw [hc] at hg;injection hg with hg;injection hg with _ hg _;exact hT hg.symm)]
  exact hc
theorem PVs.app {w:World} {base:Nat}:∀ {L M:List Peer} {xs ys:List Value},PVs w base L xs→PVs w base M ys→PVs w base (L++M) (xs++ys)
 | [],M,xs,ys,h,k=>by simp only [PVs] at h;subst h;exact k
 | p :: L,M,xs,ys,h,k=>by
   obtain ⟨u,r,rfl,hu,hr⟩:=h
   exact ⟨u,r++ys,by simp,hu,hr.app k⟩
theorem PVs.singleton {w:World} {base:Nat} {p:Peer} {u:List Value} (h:PV w base p u):PVs w base [p] u:=⟨u,[],by simp,h,rfl⟩
theorem PVs.take {w:World} {base:Nat}:∀ {L:List Peer} {xs:List Value} (k:Nat),PVs w base L xs→PVs w base (L.take k) (xs.take (k * 7))
 | [],xs,k,h=>by simp only [PVs] at h;subst h;simp [PVs]
 | p :: L,xs,0,h=>by simp [PVs]
 | p :: L,xs,k+1,h=>by
   obtain ⟨u,r,rfl,hu,hr⟩:=h
   have hl:=hu.len
   refine ⟨u,r.take (k * 7),?_,hu,hr.take k⟩
   rw [List.take_append,List.take_of_length_le (by omega),show (k+1) * 7 - u.length=k * 7 by omega]
theorem PVs.drop {w:World} {base:Nat}:∀ {L:List Peer} {xs:List Value} (k:Nat),PVs w base L xs→PVs w base (L.drop k) (xs.drop (k * 7))
 | [],xs,k,h=>by simp only [PVs] at h;subst h;simp [PVs]
 | p :: L,xs,0,h=>by simpa using h
 | p :: L,xs,k+1,h=>by
   obtain ⟨u,r,rfl,hu,hr⟩:=h
   have hl:=hu.len
   have e:(u++r).drop ((k+1) * 7)=r.drop (k * 7):=by
    rw [List.drop_append,List.drop_of_length_le (l:=u) (by omega),show (k+1) * 7 - u.length=k * 7 by omega,List.nil_append]
   rw [e]
   exact hr.drop k
theorem PVs.get {w:World} {base:Nat} {L:List Peer} {xs:List Value} (h:PVs w base L xs) {k:Nat} (hk:k<L.length):∃ u,PV w base (L.getD k default) u∧∀ i,i<7→xs[k * 7+i]? = u[i]?:=by
 have h1:=(h.drop k).take 1
 rw [List.drop_eq_getElem_cons hk,show (L[k] :: L.drop (k+1)).take 1 = [L[k]] from rfl] at h1
 obtain ⟨u,r,e,hu,hr⟩:=h1
 simp only [PVs] at hr
 subst hr
 refine ⟨u,by simpa [List.getD_eq_getElem?_getD,hk] using hu,fun i hi=>?_⟩
 rw [List.append_nil] at e
 rw [← e,List.getElem?_take,if_pos (by omega),List.getElem?_drop]
theorem own_inRow {w:World} {base n:Nat} {v:Value} {l:List Int} (h:w.ownsRow base 3 1 v n (l.map (Value.int .i64))):∃ A c,v=.slice A n c∧InRow w A n c l∧∀ g off,A=some ⟨g,off,none⟩→base≤g∧g<w.heap.size:=by
 obtain ⟨A,c,rfl,h1,h2,h3⟩:=own_form h
 refine ⟨A,c,rfl,⟨Row.of_own h,h1,h2,h3⟩,fun g off e=>?_⟩
 have:=h.lt g (by rw [e];rfl)
 exact this
theorem prow_own {w:World} {base base' n c:Nat} {A:Option Addr} {xs:List Value} {L:List Peer} (h:w.ownsRow base 193 7 (.slice A n c) n xs) (hp:PVs w base' L xs) (hb:base'≤base):PRow w A n L (fun b=>base'≤b∧b<w.heap.size):=by
 have hl:=hp.len
 have h1:=h.1
 refine ⟨by omega,fun hn=>?_⟩
 obtain ⟨g,cap,hv,_,hlt⟩:=h.form hn
 have hA:A=some ⟨g,0,none⟩:=by injection hv
 subst hA
 have hge:=(h.lt g rfl).1
 refine ⟨g,0,rfl,hlt,⟨Nat.le_trans hb hge,hlt⟩,fun k hk=>?_⟩
 obtain ⟨u,⟨v,rfl,ho⟩,hu⟩:=hp.get (k:=k) (by omega)
 obtain ⟨B,cc,rfl,hin,hbd⟩:=own_inRow ho
 have cell:∀ i,i<7→∀ y,[Value.string (L.getD k default).id,.int .i64 (L.getD k default).inc,.int .i64 (L.getD k default).seq,.int .i64 (L.getD k default).drops,.int .i64 (L.getD k default).cap,.slice B (L.getD k default).vals.length cc,.int .i64 (L.getD k default).last][i]? = some y→w.cell? ⟨g,0+k * 7+i,none⟩=some y:=fun i hi y hy=>by
  have:=h.cells (g:=g) rfl (k * 7+i) y (by rw [hu i hi];exact hy)
  rw [Go.WideShapes.add_plain] at this
  rw [Nat.add_assoc];exact this
 exact ⟨cell 0 (by omega) _ rfl,cell 1 (by omega) _ rfl,cell 2 (by omega) _ rfl,cell 3 (by omega) _ rfl,cell 4 (by omega) _ rfl,cell 6 (by omega) _ rfl,B,cc,cell 5 (by omega) _ rfl,hin,hbd⟩
theorem info_peer:(Tryz.prog.info? 193).map (fun i=>(i.zero,i.size,i.bytes))=some (some (.agg #[.string ⟨#[]⟩,.int .i64 0,.int .i64 0,.int .i64 0,.int .i64 0,.slice none 0 0,.int .i64 0]),7,80):=by kernel_rfl
theorem heap_alloc_at {w:World} {o:Obj} {B:Nat} (h:w.heap.size=B):(w.alloc o).heap[B]? = some o:=by subst h;exact heap_alloc_new w o
theorem info_peers:Tryz.prog.underlying 174=some (.slice 193):=by kernel_rfl
theorem own_grown_other {w w':World} {base base2 e T s s2 n n2:Nat} {v v2:Value} {xs ys:List Value} (h:w.ownsRow base e s v n xs) (h2:w.ownsRow base2 T s2 v2 n2 ys) (hT:T≠e) (hg:w.grownBy w' v2.ownBlock):w'.ownsRow base e s v n xs:=by
 rcases h2.2 with ⟨rfl,_⟩ | ⟨g,cap,cur,rfl,_,hc,_⟩
 ·exact h.kept hg (Classical.em _)
 ·refine own_other h hc hT (fun b hb hne=>hg.block b hb (fun h'=>hne ?_))
  simp only [Value.ownBlock,Option.some.injEq] at h'
  exact h'
theorem PVs.grown {w w':World} {base base2 T s2 n2:Nat} {v2:Value} {ys xs:List Value} {L:List Peer} (h:PVs w base L xs) (h2:w.ownsRow base2 T s2 v2 n2 ys) (hT:T≠3) (hg:w.grownBy w' v2.ownBlock):PVs w' base L xs:=
 h.kept fun _ _ _ ho=>own_grown_other ho h2 hT hg
theorem copied_ok (A:Option Addr) (n c:Nat) (L:List Peer) (f:Nat→Prop) (w:World) (hr:PRow w A n L f) (hn:n≤1000) (hv:∀ k,k<n→(L.getD k default).vals.length≤1000) :
  Calls Tryz.prog 173 #[.slice A n c] w fun e w'=>∃ A' c' xs,e=.returned (.slice A' n c')∧w'.ownsRow w.heap.size 193 7 (.slice A' n c') n xs∧PVs w' w.heap.size L xs∧Below w.heap.size w w':=by
 have HR:=Lib.hid hr
 have hl:=hr.1
 have HV:=Lib.hid hv
 have HCl:=Lib.hid (fun A n c l w' h hm=>clone_own A n c l w' h hm)
 obtain ⟨i0,hi,hz0,hz1,hz2⟩:=info_parts info_peer
 clear hr hv
 have qa:=alloc_cells
 have qf:=alloc_frozens
 go_enter Tryz.func173,Tryz.ntmps173
 go_wp2_with fail
 go_loopw [3,8] (fun v i wr=>∃ (k:Nat) (A':Option Addr) (c':Nat) (xs:List Value),k≤n∧i=.int .i64 k∧v=.slice A' k c'∧wr.ownsRow w.heap.size 193 7 (.slice A' k c') k xs∧PVs wr w.heap.size (L.take k) xs∧Below w.heap.size w wr) (fun _ i _=>n - (intOf i).toNat)
 case atStart=>exact ⟨0,none,0,[],Nat.zero_le _,rfl,rfl,World.ownsRow_nil _ _ _ _,by simp [PVs],(by repeat (first | (with_reducible exact Below.refl _ _) | (with_reducible refine bAl ?_ _) | (with_reducible refine bSc ?_ _) | (with_reducible refine Below.drew ?_) | (refine Below.trans ?_ (by assumption))))⟩
 case round=>
  obtain ⟨k,A',c',xs,hk,rfl,rfl,hown,hpv,bel⟩:=hrel
  have sz0:=bel.size
  by_cases hlt:k<n
  ·obtain ⟨b,off,rfl,lb,_,hp⟩:=(HR.out.below bel).at hlt
   obtain ⟨p,hpk⟩:∃ p,L.getD k default=p:=⟨_,rfl⟩
   have hvl:=HV.out k hlt
   rw [hpk] at hp hvl
   have htk:L.take (k+1)=L.take k ++ [p]:=by
    rw [List.take_succ_eq_append_getElem (by omega)]
    rw [← hpk];simp [List.getD_eq_getElem?_getD,show k<L.length by omega]
   obtain ⟨k0,k1,k2,k3,k4,k6,B,cc,k5,hin,_⟩:=hp
   have HIn:=Lib.hid hin.1
   have HTk:=Lib.hid htk
   have B0:=Lib.hid bel
   have HO:=Lib.hid hown
   have HP:=Lib.hid hpv
   clear bel hin htk hown hpv hpk
   go_wp2_with fail
   refine (HCl.out B p.vals.length cc p.vals _ (HIn.out.below (by repeat (first | (with_reducible exact Below.refl _ _) | (with_reducible refine bAl ?_ _) | (with_reducible refine bSc ?_ _) | (with_reducible refine Below.drew ?_) | (refine Below.trans ?_ (by assumption))))) (by omega)).mono ?_
   rintro e w1 ⟨v1,rfl,own1,hb1⟩
   have z1:=hb1.size
   have c1:=Below.cells hb1
   have f1:=Below.frozens hb1
   try simp only [World.size_alloc,World.size_setCell,World.size_drew] at z1 c1 f1
   obtain ⟨A1,cc1,rfl,_,_,_⟩:=own_form own1
   have O1:=Lib.hid own1
   clear own1
   go_wp2_with (at_builtin;go_loud (refine wpList_append_own _ rfl _ _ 174 rfl (w.heap.size) 193 i0 _ 7 80 info_peers hi hz0 hz1 hz2 rfl (by decide) _ _ _ rfl (own_below HO.out (by repeat (first | (with_reducible exact Below.refl _ _) | (with_reducible refine bAl ?_ _) | (with_reducible refine bSc ?_ _) | (with_reducible refine Below.drew ?_) | (with_reducible refine bTm ?_ hb1)))) ⟨w1.heap.size,0,none⟩ 1 1 [.string p.id,.int .i64 p.inc,.int .i64 p.seq,.int .i64 p.drops,.int .i64 p.cap,.slice A1 p.vals.length cc1,.int .i64 p.last] rfl rfl (World.news_of_block (cs:=#[.string p.id,.int .i64 p.inc,.int .i64 p.seq,.int .i64 p.drops,.int .i64 p.cap,.slice A1 p.vals.length cc1,.int .i64 p.last]) (fr:=(0,0)) (heap_alloc_at (by simp))) (by simp [Value.oneCell']) (by unfold maxLen;omega) (by omega) (by simp;omega) ?_))
   intro vq wq ownq grq _
   have bw:Below wr.heap.size wr ((w1.setCell ⟨wr.heap.size,5,none⟩ (.slice A1 p.vals.length cc1)).alloc (.cells #[.string p.id,.int .i64 p.inc,.int .i64 p.seq,.int .i64 p.drops,.int .i64 p.cap,.slice A1 p.vals.length cc1,.int .i64 p.last] 193)):=(by repeat (first | (with_reducible exact Below.refl _ _) | (with_reducible refine bAl ?_ _) | (with_reducible refine bSc ?_ _) | (with_reducible refine Below.drew ?_) | (with_reducible refine bTm ?_ hb1)))
   have O2:=own_below HO.out bw
   have PQ:=Lib.hid ((HP.out.below bw).grown O2 (by decide) grq)
   have U1:=own_mono (own_grown_other ((own_set O1.out (b:=wr.heap.size) (by simp) 5 (.slice A1 p.vals.length cc1)).alloc _) O2 (by decide) grq) (B':=w.heap.size) (by simp;omega)
   have PN:=Lib.hid (PQ.out.app (PVs.singleton (p:=p) ⟨_,rfl,U1⟩))
   have BQ:=Lib.hid ((B0.out.trans (Below.mono bw sz0)).grown grq (by have:=bw.size;omega) (fun g hg=>(HO.out.lt g hg).1))
   obtain ⟨Aq,cq,rfl,_,_,_⟩:=own_form ownq
   have OQ:=Lib.hid ownq
   clear ownq grq bw O2 U1
   go_wp2_with fail
   go_roundw
   case rel=>exact ⟨k+1,Aq,cq,_,by omega,by go_num,rfl,OQ.out,by rw [HTk.out];exact PN.out,BQ.out⟩
   case measure=>simp [intOf];omega
  ·obtain rfl:n=k:=by omega
   rw [List.take_of_length_le (by omega)] at hpv
   have HO:=Lib.hid hown
   have HP:=Lib.hid hpv
   have B0:=Lib.hid bel
   clear hown hpv bel
   go_wp2_with fail
   go_ret
   exact ⟨A',c',xs,rfl,HO.out,HP.out,B0.out⟩
end Go.Proofs.YtnaebigoknfndaaGreatDoor
namespace Go.Proofs.YtnaebigoknfndaaGreatDoor
open Go.RowKit
theorem setCells_at {g:Nat} {t:TypeId} {fz:Nat×Nat}:∀ (vs:List Value) (o:Nat) (cur:List Value) (w:World),w.heap[g]? = some (.cells cur.toArray t fz)→o+vs.length≤cur.length→(w.setCells g o vs).heap[g]? = some (.cells (splice cur o vs).toArray t fz)
 | [],o,cur,w,h,_=>by simpa [splice,World.setCells] using h
 | v :: r,o,cur,w,h,hl=>by
   rw [World.setCells]
   have h1:(w.setCell ⟨g,o,none⟩ v).heap[g]? = some (.cells (cur.set o v).toArray t fz):=by
    simp [World.setCell,Array.getElem?_modify,h]
   simp only [List.length_cons] at hl
   have h2:=setCells_at r (o+1) (cur.set o v) _ h1 (by rw [List.length_set];omega)
   rw [h2]
   congr 3
   have ho:o<cur.length:=by omega
   unfold splice
   rw [List.take_succ_eq_append_getElem (by rw [List.length_set];omega),List.getElem_set_self,List.take_set_of_le (Nat.le_refl o),List.drop_set_of_lt (by omega),List.append_assoc]
   simp [Nat.add_comm,Nat.add_left_comm]
theorem setCells_only {g:Nat}:∀ (vs:List Value) (o:Nat) (w:World),OnlyAt g w (w.setCells g o vs)
 | [],_,_=>⟨rfl,rfl,rfl,rfl,fun _ _=>rfl⟩
 | v :: r,o,w=>by
   rw [World.setCells]
   have h:=setCells_only (g:=g) r (o+1) (w.setCell ⟨g,o,none⟩ v)
   exact ⟨h.size.trans (by simp),h.os,h.tape,h.output,fun k hk=>(h.block k hk).trans (Below.heap_setCell _ _ _ _ hk)⟩
theorem splice_take {l:List Value} {o:Nat} {vs:List Value} (h:o≤l.length) (k:Nat):(splice l o vs).take (o+k)=l.take o++(vs++l.drop (o+vs.length)).take k:=by
 unfold splice
 rw [List.take_append,List.length_take,Nat.min_eq_left h,List.take_of_length_le (by rw [List.length_take];omega),show o+k - o=k by omega]
theorem info_peerS:(Tryz.prog.info? 193).map (·.size)=some 7:=by kernel_rfl
def zeroP:Value:=.agg #[.string ⟨#[]⟩,.int .i64 0,.int .i64 0,.int .i64 0,.int .i64 0,.slice none 0 0,.int .i64 0]
theorem zeroP_cells:zeroP.cells.size=7:=rfl
end Go.Proofs.YtnaebigoknfndaaGreatDoor
namespace Go.Proofs.YtnaebigoknfndaaGreatDoor
open Go.RowKit
theorem splice_take_le {l:List Value} {o k:Nat} {vs:List Value} (h:o≤l.length) (hk:k≤o):(splice l o vs).take k=l.take k:=by
 unfold splice
 rw [List.take_append_of_le_length (by rw [List.length_take];omega),List.take_take,Nat.min_eq_left hk]
theorem splice_drop {l:List Value} {o:Nat} {vs:List Value} (h:o≤l.length):(splice l o vs).drop o=vs++l.drop (o+vs.length):=by
 unfold splice
 rw [List.drop_append,List.drop_of_length_le (by rw [List.length_take];omega),List.length_take,Nat.min_eq_left h,Nat.sub_self,List.drop_zero,List.nil_append]
theorem take_two (us vs r:List Value):(us++(vs++r)).take (us.length+vs.length)=us++vs:=by
 rw [← List.append_assoc,List.take_append_of_le_length (by rw [List.length_append];omega),List.take_of_length_le (by rw [List.length_append];omega)]
theorem take_left1 (us r:List Value):(us++r).take us.length=us:=by
 rw [List.take_append_of_le_length (by omega),List.take_of_length_le (by omega)]
theorem insl_room {l us vs:List Value} {a b:Nat} (hb:a+us.length=b) (hl:b+vs.length≤l.length):(splice (splice l b vs) a us).take (b+vs.length)=l.take a++us++vs:=by
 have h1:(splice l b vs).length=l.length:=length_splice _ _ _ hl
 rw [show b+vs.length=a+(us.length+vs.length) by omega,splice_take (by omega),splice_take_le (by omega) (by omega),hb,splice_drop (by omega),take_two,List.append_assoc]
theorem insl_grow {l us vs:List Value} {a b:Nat} (hb:a+us.length=b) (hl:b+vs.length≤l.length):(splice (splice l a us) b vs).take (b+vs.length)=l.take a++us++vs:=by
 have h1:(splice l a us).length=l.length:=length_splice _ _ _ (by omega)
 rw [splice_take (by omega),take_left1,← hb,splice_take (by omega),take_left1]
theorem us_cells {w:World} {B:Nat} {us:List Value} {TB:TypeId} (hB:w.heap[B]? = some (.cells us.toArray TB (0,0))):∀ j v,us[j]? = some v→w.cell? ((⟨B,0,none⟩:Addr).add j)=some v:=fun j v hj=>by
 rw [Go.WideShapes.add_plain,(block_cells hB).1];simpa using hj
theorem insP_end (A:Option Addr) (n c B base:Nat) (xs us:List Value) (TB:TypeId) (w:World) (own:w.ownsRow base 193 7 (.slice A n c) n xs) (hul:us.length=7) (hu1:∀ u∈us,u.oneCell'=true)
  (hB:w.heap[B]? = some (.cells us.toArray TB (0,0))) (hn:n≤1000) (hbase:base≤w.heap.size) :
  Calls Tryz.prog 172 #[.slice A n c,.int .i64 n,.slice (some ⟨B,0,none⟩) 1 1] w fun e w'=>∃ A' c',e=.returned (.slice A' (n+1) c')∧w'.ownsRow base 193 7 (.slice A' (n+1) c') (n+1) (xs++us)∧w.grownBy w' (Value.slice A n c).ownBlock:=by
 have HO:=Lib.hid own
 have HU:=Lib.hid (us_cells hB)
 have HU1:=Lib.hid hu1
 have HUl:=Lib.hid (show us.length=1 * 7 by omega)
 obtain ⟨_,_,hfv,hnc,hcm,hnil⟩:=own_form own
 injection hfv with hf1 _ hf3
 subst hf1 hf3
 unfold maxLen at hcm
 obtain ⟨i0,hi,hz0,hz1,hz2⟩:=info_parts info_peer
 clear own hu1 hB hul
 rcases A with _ | ad
 ·obtain ⟨rfl,rfl⟩:=hnil rfl
  go_enter Tryz.func172,Tryz.ntmps172
  go_wp2_with (at_builtin;refine wpList_append_own _ rfl _ _ 174 rfl base 193 i0 _ 7 80 info_peers hi hz0 hz1 hz2 rfl (by decide) _ _ _ rfl HO.out ⟨B,0,none⟩ 1 1 us rfl HUl.out HU.out HU1.out (by unfold maxLen;omega) (by omega) hbase ?_)
  intro vq wq ownq grq _
  obtain ⟨Aq,cq,rfl,_,_,_⟩:=own_form ownq
  have OQ:=Lib.hid ownq
  have GQ:=Lib.hid grq
  clear ownq grq
  go_wp2_with fail
  go_ret
  exact ⟨Aq,cq,rfl,OQ.out,GQ.out⟩
 ·have hq:c=n∨n<c:=by omega
  go_enter Tryz.func172,Tryz.ntmps172
  go_wp2_with (at_builtin;refine wpList_append_own _ rfl _ _ 174 rfl base 193 i0 _ 7 80 info_peers hi hz0 hz1 hz2 rfl (by decide) _ _ _ rfl HO.out ⟨B,0,none⟩ 1 1 us rfl HUl.out HU.out HU1.out (by unfold maxLen;omega) (by omega) hbase ?_)
  all_goals
   intro vq wq ownq grq _
   obtain ⟨Aq,cq,rfl,_,_,_⟩:=own_form ownq
   have OQ:=Lib.hid ownq
   have GQ:=Lib.hid grq
   clear ownq grq
   go_wp2_with fail
   go_ret
   exact ⟨Aq,cq,rfl,OQ.out,GQ.out⟩
theorem insP_grow (g n i B base:Nat) (xs us:List Value) (TB:TypeId) (w:World) (own:w.ownsRow base 193 7 (.slice (some ⟨g,0,none⟩) n n) n xs) (hx1:∀ u∈xs,u.oneCell'=true) (hul:us.length=7) (hu1:∀ u∈us,u.oneCell'=true)
  (hB:w.heap[B]? = some (.cells us.toArray TB (0,0))) (hi:i<n) (hn:n≤1000) (hbase:base≤w.heap.size) :
  Calls Tryz.prog 172 #[.slice (some ⟨g,0,none⟩) n n,.int .i64 i,.slice (some ⟨B,0,none⟩) 1 1] w fun e w'=>∃ A' c',e=.returned (.slice A' (n+1) c')∧w'.ownsRow base 193 7 (.slice A' (n+1) c') (n+1) (xs.take (i * 7)++us++xs.drop (i * 7))∧Below w.heap.size w w':=by
 have hxl:=own.1
 rcases own.2 with ⟨h,_⟩ | ⟨g',c',cur,h,hbg,hg,hnc,hcm,hcs,htk⟩
 ·cases h
 simp only [Value.slice.injEq,Option.some.injEq,Addr.mk.injEq,and_true,true_and] at h
 obtain ⟨rfl,rfl⟩:=h
 have hgl:g<w.heap.size:=(Array.getElem?_eq_some_iff.1 hg).1
 have hBl:B<w.heap.size:=(Array.getElem?_eq_some_iff.1 hB).1
 obtain ⟨m,hm⟩:∃ m,n+1 - i=m:=⟨_,rfl⟩
 obtain ⟨i0,hi0,hz0,hz1,hz2⟩:=info_parts info_peer
 have hcell:∀ q,w.cell? ⟨g,q,none⟩=cur[q]?:=fun q=>cell_of_row (w:=w) _ _ _ _ _ hg
 have hxc:∀ q u,xs[q]? = some u→cur[q]? = some u:=fun q u hu=>by
  rw [← htk,List.getElem?_take] at hu
  split at hu
  ·simpa using hu
  ·cases hu
 have hold:(Builtin.firstCells i0.size i (.slice (some ⟨g,0,none⟩) i n)).run Tryz.prog w.drew=.ok (xs.take (i * 7)).toArray w.drew:=by
  rw [hz1]
  exact run_firstCells_some w.drew 7 i ⟨g,0,none⟩ i n (xs.take (i * 7)) (by rw [List.length_take];omega) (fun j v hj=>by
   rw [Addr.add_lit,Nat.zero_add]
   rw [List.getElem?_take] at hj
   split at hj
   ·exact (hcell _).trans (hxc j v hj)
   ·cases hj)
 obtain ⟨G,hG⟩:∃ G,grownCap w (n+1) n 193=G:=⟨_,rfl⟩
 have hGn:n+1≤G:=by rw [← hG];exact grownCap_ge w _ _ _
 have hG63:G≤9223372036854775807:=by
  have:=grownCap_le_maxLen w (n+1) n 193 (by unfold maxLen;omega)
  rw [hG] at this
  unfold maxLen at this
  omega
 obtain ⟨ROW,hROW⟩:∃ ROW:List Value,ROW=xs.take (i * 7)++zeros zeroP.cells (n+1 - i)++zeros zeroP.cells (G - (n+1)):=⟨_,rfl⟩
 have hRl:ROW.length=G * 7:=by
  rw [hROW,List.length_append,List.length_append,zeros_len,zeros_len,zeroP_cells,List.length_take,hxl];omega
 have hRt:ROW.take (i * 7)=xs.take (i * 7):=by
  rw [hROW,List.append_assoc,List.take_append_of_le_length (by rw [List.length_take];omega),List.take_of_length_le (by rw [List.length_take];omega)]
 obtain ⟨W1,hW1⟩:∃ W1,W1=w.drew.alloc (.cells ROW.toArray 193):=⟨_,rfl⟩
 have hRA:ROW.toArray=(xs.take (i * 7)).toArray++Builtin.zeroCells zeroP.cells m++Builtin.zeroCells zeroP.cells (G - (n+1)):=by
  rw [hROW,hm]
  apply Array.toList_inj.1
  simp [zeros]
 have hkk:(n:Int)+1 - (i:Int)=(m:Int):=by omega
 have hrz:∀ ty,(Builtin.append_ #[174,3] ty #[.slice (some ⟨g,0,none⟩) i n,.int .i64 ((n:Int)+1 - (i:Int))]).run Tryz.prog w=.ok (.slice (some ⟨w.heap.size,0,none⟩) (n+1) G) W1:=fun ty=>by
  have h:=Lib.run_append_grow_zeros (P:=Tryz.prog) w 174 3 ty 193 i0 zeroP .i64 .i64 info_peers Tryz.underlying3 hi0 hz0 (some ⟨g,0,none⟩) i n (xs.take (i * 7)) hold m (by omega) (by omega) (by omega) (by omega) (by rw [hz2];omega) (by rw [hz2,show i+m=n+1 by omega];exact growslice_fits (by omega) (by omega))
  rw [show i+m=n+1 by omega,hG] at h
  rw [hkk,h,hW1,hRA]
 have bl1:Below w.heap.size w W1:=by rw [hW1];exact (Below.drew (Below.refl _ w)).alloc (Nat.le_refl _) _
 have G1:Hid (W1.heap[w.heap.size]? = some (.cells ROW.toArray 193 (0,0))):=by show _=_;rw [hW1];exact heap_alloc_new w.drew _
 have HU:Hid (∀ (W:World),W.heap[B]? = w.heap[B]?→∀ j v,us[j]? = some v→W.cell? ((⟨B,0,none⟩:Addr).add j)=some v):=fun W h=>us_cells (h.trans hB)
 obtain ⟨vs,hvs⟩:∃ vs,xs.drop (i * 7)=vs:=⟨_,rfl⟩
 have hvl:vs.length=(n - i) * 7:=by rw [← hvs,List.length_drop,hxl];omega
 have HV:Hid (∀ (W:World),W.heap[g]? = w.heap[g]?→∀ j v,vs[j]? = some v→W.cell? ((⟨g,i * 7,none⟩:Addr).add j)=some v):=fun W h j v hj=>by
  rw [Addr.add_lit,cell_of_row (w:=W) _ _ _ _ _ (h.trans hg)]
  rw [← hvs,List.getElem?_drop] at hj
  exact hxc _ _ hj
 have hv1:Hid (∀ u∈vs,u.oneCell'=true):=fun u hu=>hx1 u (by rw [← hvs] at hu;exact List.mem_of_mem_drop hu)
 have HU1:=Lib.hid hu1
 have BG:Hid (W1.heap[g]? = w.heap[g]?):=bl1.block g hgl
 have BB:Hid (W1.heap[B]? = w.heap[B]?):=bl1.block B hBl
 have HB1:=Lib.hid bl1
 have hz3:(n:Int)<(n:Int)+1:=by omega
 have hz2':¬ ((i:Int)=(n:Int)):=by omega
 have hw1:IntKind.i64.wrap ((i:Int)+1)=(i:Int)+1:=by rw [IntKind.wrap_i64];omega
 have hb1:(0:Int)≤(i:Int)+1:=by omega
 have hin:i≤n:=by omega
 have htn:((i:Int)+1).toNat=i+1:=by omega
 have hb3:(i:Int)≤(n:Int):=by omega
 have hGi:¬ (G=i):=by omega
 have hGim:¬ (G=i+1):=by omega
 have hni:¬ (n=i):=by omega
 have X1:=Lib.hid hRl
 have X2:=Lib.hid hul
 have X3:=Lib.hid hvl
 have X4:=Lib.hid hRt
 have X5:=Lib.hid hm
 have HRz:=Lib.hid hrz
 have X6:=Lib.hid hvs
 clear own hx1 hu1 hB hcell hxc hold hG hROW hRt hW1 hrz bl1 hvl hRl hul htk hg hcs hm hvs hkk hRA
 go_enter Tryz.func172,Tryz.ntmps172
 go_wp2_with (first
  | (at_builtin;refine Lib.wpList_append_run _ rfl _ _ _ _ rfl _ _ rfl rfl _ _ (HRz.out _) ?_)
  | (refine wpList_copy_spliceK rfl _ _ 174 174 rfl 193 7 (by omega) info_peers info_peerS _ _ _ _ _ _ rfl rfl w.heap.size (i * 7) ROW _ G1.out us (by rw [X2.out];simp only [Nat.min_def];split <;> omega) (fun _=>⟨rfl,_,rfl,HU.out _ BB.out⟩) (by have:=X1.out;have:=X2.out;omega) HU1.out ?_;intro W3 G3 O3))
 go_simp
 have hne:w.heap.size≠g:=by omega
 have BG3:Hid (W3.heap[g]? = w.heap[g]?):=(O3.out.block g (Ne.symm hne)).trans BG.out
 go_region_law (refine step_copy_spliceK rfl _ _ 174 174 rfl 193 7 (by omega) info_peers info_peerS (some ⟨w.heap.size,(i+1) * 7,none⟩) (some ⟨g,i * 7,none⟩) (n+1 - (i+1)) (G - (i+1)) (n - i) (n - i) (by simp [Act.eval,Act.put]) (by simp [Act.eval,Act.put]) w.heap.size ((i+1) * 7) _ _ G3.out vs (by rw [X3.out];simp only [Nat.min_def];split <;> omega) (fun _=>⟨rfl,_,rfl,HV.out _ BG3.out⟩) (by rw [length_splice _ _ _ (by have:=X1.out;have:=X2.out;omega)];have:=X1.out;have:=X3.out;omega) hv1.out ?_;intro W4 G4 O4)
 go_wp2_with fail
 go_ret
 have hl3:=length_splice ROW (i * 7) us (by have:=X1.out;have:=X2.out;omega)
 have hl4:=length_splice (splice ROW (i * 7) us) ((i+1) * 7) vs (by have:=X1.out;have:=X3.out;omega)
 have hrow:(splice (splice ROW (i * 7) us) ((i+1) * 7) vs).take ((n+1) * 7)=xs.take (i * 7)++us++xs.drop (i * 7):=by
  have h:=insl_grow (l:=ROW) (us:=us) (vs:=vs) (a:=i * 7) (b:=(i+1) * 7) (by have:=X2.out;omega) (by have:=X1.out;have:=X3.out;omega)
  rw [X3.out,X4.out,show (i+1) * 7+(n - i) * 7=(n+1) * 7 by omega] at h
  rw [h,X6.out]
 refine ⟨some ⟨w.heap.size,0,none⟩,G,rfl,⟨?_,.inr ⟨w.heap.size,G,_,rfl,hbase,G4.out,by omega,by unfold maxLen;omega,by have:=X1.out;simp;omega,by simpa using hrow⟩⟩,?_⟩
 ·rw [← hrow,List.length_take];have:=X1.out;omega
 ·exact (HB1.out.trans (O3.out.below (Nat.le_refl _))).drew.trans (O4.out.below (Nat.le_refl _))
theorem sizeOf_peer:∀ w,(Go.sizeOf 193).run Tryz.prog w=.ok 7 w:=Tryz.sizeOf193
theorem insP_room (g n c i B base:Nat) (xs us:List Value) (TB:TypeId) (w:World) (own:w.ownsRow base 193 7 (.slice (some ⟨g,0,none⟩) n c) n xs) (hx1:∀ u∈xs,u.oneCell'=true) (hul:us.length=7) (hu1:∀ u∈us,u.oneCell'=true)
  (hB:w.heap[B]? = some (.cells us.toArray TB (0,0))) (hBg:B≠g) (hi:i<n) (hn:n≤1000) (hc:n<c) :
  Calls Tryz.prog 172 #[.slice (some ⟨g,0,none⟩) n c,.int .i64 i,.slice (some ⟨B,0,none⟩) 1 1] w fun e w'=>∃ A' c',e=.returned (.slice A' (n+1) c')∧w'.ownsRow base 193 7 (.slice A' (n+1) c') (n+1) (xs.take (i * 7)++us++xs.drop (i * 7))∧w.grownBy w' (some g):=by
 have hxl:=own.1
 rcases own.2 with ⟨h,_⟩ | ⟨g',c',cur,h,hbg,hg,hnc,hcm,hcs,htk⟩
 ·cases h
 simp only [Value.slice.injEq,Option.some.injEq,Addr.mk.injEq,and_true,true_and] at h
 obtain ⟨rfl,rfl⟩:=h
 unfold maxLen at hcm
 have hgl:g<w.heap.size:=(Array.getElem?_eq_some_iff.1 hg).1
 have hcl:cur.toList.length=c * 7:=by simpa using hcs
 have hxc:∀ q u,xs[q]? = some u→cur[q]? = some u:=fun q u hu=>by
  rw [← htk,List.getElem?_take] at hu
  split at hu
  ·simpa using hu
  ·cases hu
 have G0:Hid (w.heap[g]? = some (.cells cur.toList.toArray 193 (0,0))):=by show _=_;rw [Array.toArray_toList];exact hg
 have HU:Hid (∀ (W:World),W.heap[B]? = w.heap[B]?→∀ j v,us[j]? = some v→W.cell? ((⟨B,0,none⟩:Addr).add j)=some v):=fun W h=>us_cells (h.trans hB)
 obtain ⟨vs,hvs⟩:∃ vs,xs.drop (i * 7)=vs:=⟨_,rfl⟩
 have hvl:vs.length=(n - i) * 7:=by rw [← hvs,List.length_drop,hxl];omega
 have HV:Hid (∀ (W:World),W.heap[g]? = w.heap[g]?→∀ j v,vs[j]? = some v→W.cell? ((⟨g,i * 7,none⟩:Addr).add j)=some v):=fun W h j v hj=>by
  rw [Addr.add_lit,cell_of_row (w:=W) _ _ _ _ _ (h.trans hg)]
  rw [← hvs,List.getElem?_drop] at hj
  exact hxc _ _ hj
 have hv1:Hid (∀ u∈vs,u.oneCell'=true):=fun u hu=>hx1 u (by rw [← hvs] at hu;exact List.mem_of_mem_drop hu)
 have HU1:=Lib.hid hu1
 have hsa:w.shape? B=some (TB,7):=by simp [World.shape?,hB,hul]
 have hsb:w.shape? g=some (193,c * 7):=by simp [World.shape?,hg,hcs]
 have hfr:∀ q,w.frozen? ⟨B,q,none⟩=false:=fun q=>(block_cells hB).2 q
 have hov:∀ lb cb,(callFunc 203 #[.slice (some ⟨B,0,none⟩) 1 1,.slice (some ⟨g,(i+1) * 7,none⟩) lb cb]).run Tryz.prog w=.ok (.value (.bool false)) w:=fun lb cb=>by
  rw [run_callFunc_extern Tryz.func203 (by kernel_rfl) (by kernel_rfl) (by kernel_rfl) (e:=Extern.SlicesOverlaps.overlaps #[174,174] #[4]) (by kernel_rfl),
   Lib.run_overlaps_apart w 174 4 193 info_peers 7 sizeOf_peer ⟨B,0,none⟩ ⟨g,(i+1) * 7,none⟩ 1 1 lb cb hBg TB 193 7 (c * 7) hsa hsb (by omega) (hfr _) (hfr _)]
  rfl
 have hz3:¬ (c:Int)<(n:Int)+1:=by omega
 have hz2':¬ ((i:Int)=(n:Int)):=by omega
 have hw1:IntKind.i64.wrap ((i:Int)+1)=(i:Int)+1:=by rw [IntKind.wrap_i64];omega
 have hb1:(0:Int)≤(i:Int)+1:=by omega
 have hin:i≤n:=by omega
 have htn:((i:Int)+1).toNat=i+1:=by omega
 have hb2:¬ (c=i+1):=by omega
 have hb3:(i:Int)≤(n:Int)+1:=by omega
 have hb4:¬ (c=i):=by omega
 have X1:=Lib.hid hcl
 have X2:=Lib.hid hul
 have X3:=Lib.hid hvl
 have X4:=Lib.hid (show cur.toList.take (i * 7)=xs.take (i * 7) by rw [← htk,List.take_take,Nat.min_eq_left (by omega)])
 have X6:=Lib.hid hvs
 have BBg:=Lib.hid hBg
 clear own hx1 hu1 hB hxc hcl hvl hul htk hg hvs hsa hsb hfr hBg hcs
 go_enter Tryz.func172,Tryz.ntmps172
 go_wp2_with fail
 go_region_law (refine step_copy_spliceK rfl _ _ 174 174 rfl 193 7 (by omega) info_peers info_peerS (some ⟨g,(i+1) * 7,none⟩) (some ⟨g,i * 7,none⟩) (n+1 - (i+1)) (c - (i+1)) (n+1 - i) (c - i) (by simp [Act.eval,Act.put]) (by simp [Act.eval,Act.put]) g ((i+1) * 7) _ _ G0.out vs (by rw [X3.out];simp only [Nat.min_def];split <;> omega) (fun _=>⟨rfl,_,rfl,HV.out _ rfl⟩) (by have:=X1.out;have:=X3.out;omega) hv1.out ?_;intro W3 G3 O3)
 have BB3:Hid (W3.heap[B]? = w.heap[B]?):=O3.out.block B BBg.out
 have hl3:Hid ((splice cur.toList ((i+1) * 7) vs).length=c * 7):=by show _=_;rw [length_splice _ _ _ (by have:=X1.out;have:=X3.out;omega)];exact X1.out
 go_wp2_with (refine wpList_copy_spliceK rfl _ _ 174 174 rfl 193 7 (by omega) info_peers info_peerS _ _ _ _ _ _ rfl rfl g (i * 7) (splice cur.toList ((i+1) * 7) vs) _ G3.out us (by rw [X2.out];simp only [Nat.min_def];split <;> omega) (fun _=>⟨rfl,_,rfl,HU.out _ BB3.out⟩) (by have:=hl3.out;have:=X2.out;omega) HU1.out ?_;intro W4 G4 O4)
 go_simp
 go_wp2_with fail
 go_ret
 have hl4:=length_splice (splice cur.toList ((i+1) * 7) vs) (i * 7) us (by have:=hl3.out;have:=X2.out;omega)
 have hrow:(splice (splice cur.toList ((i+1) * 7) vs) (i * 7) us).take ((n+1) * 7)=xs.take (i * 7)++us++xs.drop (i * 7):=by
  have h:=insl_room (l:=cur.toList) (us:=us) (vs:=vs) (a:=i * 7) (b:=(i+1) * 7) (by have:=X2.out;omega) (by have:=X1.out;have:=X3.out;omega)
  rw [X3.out,X4.out,show (i+1) * 7+(n - i) * 7=(n+1) * 7 by omega] at h
  rw [h,X6.out]
 refine ⟨some ⟨g,0,none⟩,c,rfl,⟨?_,.inr ⟨g,c,_,rfl,hbg,G4.out,by omega,by unfold maxLen;omega,by have:=hl3.out;simp;omega,by simpa using hrow⟩⟩,?_⟩
 ·have h:=congrArg List.length hrow
  rw [List.length_take] at h
  have:=hl3.out
  simp only [List.append_assoc] at h ⊢
  omega
 ·exact grown_trans (grown_trans (grown_below (Below.drew (Below.refl _ w))) O3.out.grown) O4.out.grown
theorem insP_ok (A:Option Addr) (n c i B base:Nat) (xs us:List Value) (TB:TypeId) (w:World) (own:w.ownsRow base 193 7 (.slice A n c) n xs) (hx1:∀ u∈xs,u.oneCell'=true) (hul:us.length=7) (hu1:∀ u∈us,u.oneCell'=true)
  (hB:w.heap[B]? = some (.cells us.toArray TB (0,0))) (hBg:(Value.slice A n c).ownBlock≠some B) (hi:i≤n) (hn:n≤1000) (hbase:base≤w.heap.size) :
  Calls Tryz.prog 172 #[.slice A n c,.int .i64 i,.slice (some ⟨B,0,none⟩) 1 1] w fun e w'=>∃ A' c',e=.returned (.slice A' (n+1) c')∧w'.ownsRow base 193 7 (.slice A' (n+1) c') (n+1) (xs.take (i * 7)++us++xs.drop (i * 7))∧w.grownBy w' (Value.slice A n c).ownBlock:=by
 have hxl:=own.1
 rcases Nat.eq_or_lt_of_le hi with h | h
 ·subst h
  refine (insP_end A i c B base xs us TB w own hul hu1 hB hn hbase).mono ?_
  rintro e w' ⟨A',c',rfl,h1,h2⟩
  refine ⟨A',c',rfl,?_,h2⟩
  rw [List.take_of_length_le (by omega),List.drop_of_length_le (by omega),List.append_nil]
  exact h1
 ·obtain ⟨g,cap,hv,_,_⟩:=own.form (by omega)
  have own':=own
  simp only [Value.slice.injEq] at hv
  obtain ⟨rfl,-,rfl⟩:=hv
  obtain ⟨_,_,hfv,hnc,_,_⟩:=own_form own
  simp only [Value.slice.injEq,true_and] at hfv
  obtain ⟨-,rfl⟩:=hfv
  rcases Nat.eq_or_lt_of_le hnc with hc | hc
  ·subst hc
   refine (insP_grow g n i B base xs us TB w own hx1 hul hu1 hB h hn hbase).mono ?_
   rintro e w' ⟨A',c',rfl,h1,h2⟩
   exact ⟨A',c',rfl,h1,grown_below h2⟩
  ·exact insP_room g n c i B base xs us TB w own hx1 hul hu1 hB (fun e=>hBg (by rw [e];rfl)) h hn hc
end Go.Proofs.YtnaebigoknfndaaGreatDoor
