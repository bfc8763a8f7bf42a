/- What the desk's two laws lean on: part 12 (contracts and plain laws; their conditions stand in each). -/
import Derived.Test.YtnaebigoknfndaaGreatDoorE01
import Derived.Test.YtnaebigoknfndaaGreatDoorE03
import Derived.Test.YtnaebigoknfndaaGreatDoorE08
import Derived.Test.YtnaebigoknfndaaGreatDoorE10
import Derived.Test.YtnaebigoknfndaaGreatDoorE11
import Derived.Test.YtnaebigoknfndaaGreatDoorE04
import Derived.Test.YtnaebigoknfndaaGreatDoorE05
set_option linter.unusedVariables false
set_option linter.unusedSimpArgs false
set_option maxRecDepth 100000
set_option maxHeartbeats 20000000
namespace Go.Proofs.YtnaebigoknfndaaGreatDoor
open Go Go.RowKit
structure Sub where
 id:ByteArray
 theta:Int
 on:Bool
instance:Inhabited Sub:=⟨⟨⟨#[]⟩,0,false⟩⟩
def subC (s:Sub):List Value:=[.string s.id,.int .i64 s.theta,.bool s.on]
def subsC (L:List Sub):List Value:=L.flatMap subC
theorem subsC_get:∀ (L:List Sub) (k i:Nat),k<L.length→i<3→(subsC L)[k * 3+i]? = (subC (L.getD k default))[i]?
 | [],k,i,h,_=>by simp at h
 | s :: L,0,i,_,hi=>by
   show (subC s++subsC L)[0 * 3+i]? = _
   rw [List.getElem?_append_left (by simp [subC];omega)]
   simp
 | s :: L,k+1,i,h,hi=>by
   show (subC s++subsC L)[(k+1) * 3+i]? = _
   rw [List.getElem?_append_right (by simp [subC];omega),show (k+1) * 3+i - (subC s).length=k * 3+i by simp [subC];omega,subsC_get L k i (by simpa using h) hi]
   simp
structure NSt where
 id:ByteArray
 inc:Int
 every:Int
 cap:Int
 least:Int
 now:Int
 seq:Int
 drops:Int
 peers:List Peer
 subs:List Sub
def NRep (w:World) (b:Nat) (s:NSt) (f:Nat→Prop):Prop:=
 ∃ (A:Option Addr) (n c:Nat) (S:Value),NodeAt w b s.id s.inc s.every s.cap s.least s.now s.seq s.drops (.slice A n c) S∧f b∧PRow w A n s.peers (fun x=>f x∧x≠b∧S.ownBlock≠some x) ∧
  w.ownsRow 0 197 3 S s.subs.length (subsC s.subs)∧(∀ g,S.ownBlock=some g→f g∧g≠b)∧∀ x,f x→x<w.heap.size
theorem own_same {f:Nat→Prop} {w w':World} {B e s n:Nat} {v:Value} {xs:List Value} (h:w.ownsRow B e s v n xs) (hf:∀ g,v.ownBlock=some g→f g) (hs:Same f w w'):w'.ownsRow B e s v n xs:=by
 refine ⟨h.1,?_⟩
 rcases h.2 with h1 | ⟨g,cap,cur,rfl,h1,h2,h3⟩
 ·exact .inl h1
 ·exact .inr ⟨g,cap,cur,rfl,h1,(hs.2 g (Array.getElem?_eq_some_iff.1 h2).1 (hf g rfl)).trans h2,h3⟩
theorem NRep.same {w w':World} {b:Nat} {s:NSt} {f:Nat→Prop} (h:NRep w b s f) (hs:Same f w w'):NRep w' b s f:=by
 obtain ⟨A,n,c,S,h1,h2,h3,h4,h5,h6⟩:=h
 exact ⟨A,n,c,S,h1.same (hs.2 b h1.lt h2),h2,h3.same ⟨hs.1,fun x hx hfx=>hs.2 x hx hfx.1⟩,own_same h4 (fun g hg=>(h5 g hg).1) hs,h5,fun x hx=>Nat.lt_of_lt_of_le (h6 x hx) hs.1⟩
theorem NRep.below {w w':World} {b:Nat} {s:NSt} {f:Nat→Prop} (h:NRep w b s f) (hb:Below w.heap.size w w'):NRep w' b s f:=h.same (Same.of_below hb)
structure Kept (f:Nat→Prop) (w w':World):Prop where
 os:w'.os=w.os
 tape:w'.tape=w.tape
 output:w'.output=w.output
 size:w.heap.size≤w'.heap.size
 block:∀ x,x<w.heap.size→¬ f x→w'.heap[x]? = w.heap[x]?
theorem Kept.refl (f:Nat→Prop) (w:World):Kept f w w:=⟨rfl,rfl,rfl,Nat.le_refl _,fun _ _ _=>rfl⟩
theorem Kept.trans {f g:Nat→Prop} {w w1 w2:World} (h:Kept f w w1) (k:Kept g w1 w2) (hg:∀ x,x<w.heap.size→g x→f x):Kept f w w2:=
 ⟨k.os.trans h.os,k.tape.trans h.tape,k.output.trans h.output,Nat.le_trans h.size k.size,fun x hx hf=>(k.block x (Nat.lt_of_lt_of_le hx h.size) (fun hgx=>hf (hg x hx hgx))).trans (h.block x hx hf)⟩
theorem Kept.of_below {f:Nat→Prop} {w w':World} (h:Below w.heap.size w w'):Kept f w w':=⟨h.os,h.tape,h.output,h.size,fun x hx _=>h.block x hx⟩
theorem Kept.below {f:Nat→Prop} {B:Nat} {w w':World} (h:Kept f w w') (hB:B≤w.heap.size) (hf:∀ x,f x→B≤x):Below B w w':=⟨h.os,h.tape,h.output,h.size,fun x hx=>h.block x (by omega) (fun hfx=>by have:=hf x hfx;omega)⟩
theorem Kept.same {f g:Nat→Prop} {w w':World} (h:Kept f w w') (hd:∀ x,g x→¬ f x):Same g w w':=⟨h.size,fun x hx hg=>h.block x hx (hd x hg)⟩
def lvP (least now:Int) (p:Peer):Int:=lv p.vals least (now - p.last)
def levN (s:NSt) (id:ByteArray):Int:=if has s.peers id then lvP s.least s.now (s.peers.getD (pos s.peers id) default) else 0
structure NOK (s:NSt):Prop where
 id:IdOK (byts s.id)
 inc:0≤s.inc∧s.inc<2147483648
 every:1≤s.every∧s.every≤16777216
 cap:1≤s.cap∧s.cap≤64
 least:1≤s.least∧s.least≤16777216
 now:0≤s.now∧s.now≤1073741824
 seq:0≤s.seq∧s.seq≤s.now
 drops:0≤s.drops∧s.drops≤1073741824
 tab:TabOK s.peers
 wins:∀ p∈s.peers,1≤p.vals.length∧p.last≤s.now
 subs:s.subs.length≤8
theorem NOK.at {s:NSt} (h:NOK s) {k:Nat} (hk:k<s.peers.length):PeerOK (s.peers.getD k default)∧1≤(s.peers.getD k default).vals.length∧(s.peers.getD k default).last≤s.now:=by
 have hm:s.peers.getD k default∈s.peers:=by
  rw [List.getD_eq_getElem?_getD,List.getElem?_eq_getElem hk];exact List.getElem_mem _
 exact ⟨h.tab.each _ hm,h.wins _ hm⟩
theorem idf_ok (s id:ByteArray) (a b c d x:Int) (v:Value) (bx:Nat) (r:Bool) (w:World) (hc:w.cell? ⟨bx,0,none⟩=some (.string id)) (hbx:bx<w.heap.size) (hv:v.oneCell'=true) (hr:(s.toList==id.toList)=r) :
  Calls Tryz.prog 154 #[.agg #[.string s,.int .i64 a,.int .i64 b,.int .i64 c,.int .i64 d,v,.int .i64 x],.pointer (some ⟨bx,0,none⟩)] w fun e w'=>e=.returned (.bool r)∧Below w.heap.size w w':=by
 have HRr:=Lib.hid hr
 have qa:=alloc_cells
 have qf:=alloc_frozens
 clear hr
 go_enter Tryz.func154,Tryz.ntmps154
 go_wp2_with fail
 go_ret
 exact ⟨by rw [← HRr.out];rfl,(by repeat (first | (with_reducible exact Below.refl _ _) | (with_reducible refine bAl ?_ _) | (with_reducible refine bSc ?_ _) | (with_reducible refine Below.drew ?_) | (refine Below.trans ?_ (by assumption))))⟩
theorem index_id (A:Option Addr) (n c:Nat) (L:List Peer) (f:Nat→Prop) (id:ByteArray) (bx:Nat) (i:Int) (w:World) (hr:PRow w A n L f) (hn:n≤1000) (hT:TabOK L) (hc:w.cell? ⟨bx,0,none⟩=some (.string id)) (hi:(if has L id then (pos L id:Int) else -1)=i) :
  Calls Tryz.prog 153 #[.slice A n c,.func (.func 154) #[] #[.pointer (some ⟨bx,0,none⟩)]] w fun e w'=>e=.returned (.int .i64 i)∧Below w.heap.size w w':=by
 have hl:=hr.1
 have HR:=Lib.hid hr
 have HT:=Lib.hid hT
 have hbx:=World.block_lt_of_cell? w _ hc
 have HC:=Lib.hid hc
 have HI:=Lib.hid hi
 have HF:=Lib.hid idf_ok
 clear hr hT hc hi
 have qa:=alloc_cells
 have qf:=alloc_frozens
 go_enter Tryz.func153,Tryz.ntmps153
 go_wp2_with fail
 go_loopw [8] (fun v wr=>∃ k:Nat,k≤n∧v=.int .i64 k∧(∀ j,j<k→(L.getD j default).id≠id)∧Below w.heap.size w wr) (fun v _=>n - (intOf v).toNat)
 case atStart=>exact ⟨0,Nat.zero_le _,rfl,fun j hj=>absurd hj (by omega),(by repeat (first | (with_reducible exact Below.refl _ _) | (with_reducible refine bAl ?_ _) | (with_reducible refine bSc ?_ _) | (with_reducible refine Below.drew ?_) | (refine Below.trans ?_ (by assumption))))⟩
 case round=>
  obtain ⟨k,hk,rfl,hno,bel⟩:=hrel
  have sz0:=bel.size
  have cb:wr.cell? ⟨bx,0,none⟩=some (.string id):=(bel.cell (p:=⟨bx,0,none⟩) hbx).trans HC.out
  have bz:bx<wr.heap.size:=by omega
  by_cases hlt:k<n
  ·obtain ⟨b,off,rfl,lb,_,hp⟩:=(HR.out.below bel).at hlt
   obtain ⟨p,hpk⟩:∃ p,L.getD k default=p:=⟨_,rfl⟩
   rw [hpk] at hp
   obtain ⟨k0,k1,k2,k3,k4,k6,B,cc,k5,hin,_⟩:=hp
   have B0:=Lib.hid bel
   by_cases he:p.id=id
   ·have hs:(p.id.toList==id.toList)=true:=by rw [he];simp
    have hh:has L id=true:=(has_iff HT.out.order id).2 ⟨p,by rw [← hpk,List.getD_eq_getElem?_getD,List.getElem?_eq_getElem (show k<L.length by omega)];exact List.getElem_mem _,he⟩
    have hki:=pos_unique HT.out hh (show k<L.length by omega) (by rw [hpk];exact he)
    have hii:(k:Int)=i:=by rw [← HI.out,if_pos hh,hki]
    have HKi:=Lib.hid hii
    clear bel hin hno hpk he hh hki hii
    go_wp2_with fail
    refine (HF.out _ id _ _ _ _ _ _ bx true _ cb bz rfl hs).mono ?_
    rintro e w1 ⟨rfl,hb1⟩
    have z1:=hb1.size
    have c1:=Below.cells hb1
    have f1:=Below.frozens hb1
    try simp only [World.size_alloc,World.size_setCell,World.size_drew] at z1 c1 f1
    go_wp2_with fail
    go_ret
    exact ⟨by rw [← HKi.out];rfl,B0.out.trans (Below.mono hb1 sz0)⟩
   ·have hs:=str_ne he
    have HNo:=Lib.hid (show ∀ j,j<k+1→(L.getD j default).id≠id from fun j hj=>by
     rcases Nat.lt_or_ge j k with c | c
     ·exact hno j c
     ·obtain rfl:j=k:=by omega
      rw [hpk];exact he)
    clear bel hin hno hpk he
    go_wp2_with fail
    refine (HF.out _ id _ _ _ _ _ _ bx false _ cb bz rfl hs).mono ?_
    rintro e w1 ⟨rfl,hb1⟩
    have z1:=hb1.size
    have c1:=Below.cells hb1
    have f1:=Below.frozens hb1
    try simp only [World.size_alloc,World.size_setCell,World.size_drew] at z1 c1 f1
    go_wp2_with fail
    go_roundw
    case rel=>exact ⟨k+1,by omega,by go_num,HNo.out,B0.out.trans (Below.mono hb1 sz0)⟩
    case measure=>simp [intOf];omega
  ·obtain rfl:n=k:=by omega
   have hh:has L id=false:=by
    cases hb:has L id with
    | false=>rfl
    | true=>exact absurd (has_id hb) (hno _ (by have:=has_lt hb;omega))
   have hii : -1=i:=by rw [← HI.out,hh];rfl
   have HKi:=Lib.hid hii
   clear hno hh hii
   go_wp2_with fail
   go_ret
   exact ⟨by rw [← HKi.out];rfl,bel⟩
theorem nlevel_ok (b:Nat) (s:NSt) (f:Nat→Prop) (id:ByteArray) (w:World) (h:NRep w b s f) (ok:NOK s) (k e0:Int) (hk:levN s id=k) (he:(if has s.peers id then 0 else 4)=e0) :
  Calls Tryz.prog 125 #[.pointer (some ⟨b,0,none⟩),.string id] w fun e w'=>e=.returned (.tuple #[.int .i64 k,.int .i64 e0])∧Below w.heap.size w w':=by
 obtain ⟨A,n,c,S,hnd,hfb,hpr,_,_,_⟩:=h
 have hl:=hpr.1
 have h6:=ok.tab.len
 have hnl:=hnd.lt
 have HND:=Lib.hid hnd
 have HPR:=Lib.hid hpr
 have HIx:=Lib.hid (fun bx i w' (hr:PRow w' A n s.peers (fun x=>f x∧x≠b∧S.ownBlock≠some x)) hc hi=>index_id A n c s.peers _ id bx i w' hr (by omega) ok.tab hc hi)
 have qa:=alloc_cells
 have qf:=alloc_frozens
 cases hh:has s.peers id with
 | false=>
  have e4:(4:Int)=e0:=by rw [← he,hh];rfl
  have ek:(0:Int)=k:=by rw [← hk];unfold levN;rw [hh];rfl
  have hi:(if has s.peers id then (pos s.peers id:Int) else -1) = -1:=by rw [hh];rfl
  have HI:=Lib.hid hi
  have HE:=Lib.hid e4
  have HK:=Lib.hid ek
  obtain ⟨_,_,_,_,_,_,_,_,k8,_⟩:=hnd.cells
  clear hnd hpr ok hk he hi e4 ek hh
  go_enter Tryz.func125,Tryz.ntmps125
  go_wp2_with fail
  refine (HIx.out w.heap.size (-1) _ (HPR.out.below (by repeat (first | (with_reducible exact Below.refl _ _) | (with_reducible refine bAl ?_ _) | (with_reducible refine bSc ?_ _) | (with_reducible refine Below.drew ?_) | (refine Below.trans ?_ (by assumption))))) (by simp [go_sem,↓IntWalk.iteOmega, *]) HI.out).mono ?_
  rintro e w1 ⟨rfl,hb1⟩
  have z1:=hb1.size
  have c1:=Below.cells hb1
  have f1:=Below.frozens hb1
  try simp only [World.size_alloc,World.size_setCell,World.size_drew] at z1 c1 f1
  go_wp2_with fail
  go_ret2
  exact ⟨by rw [← HE.out,← HK.out];rfl,(by repeat (first | (with_reducible exact Below.refl _ _) | (with_reducible refine bAl ?_ _) | (with_reducible refine bSc ?_ _) | (with_reducible refine Below.drew ?_) | (with_reducible refine bTm ?_ hb1)))⟩
 | true=>
  have e4:(0:Int)=e0:=by rw [← he,hh];rfl
  have hlt:=has_lt hh
  obtain ⟨p,hpk⟩:∃ p,s.peers.getD (pos s.peers id) default=p:=⟨_,rfl⟩
  have ek:lv p.vals s.least (s.now - p.last)=k:=by rw [← hk];unfold levN lvP;rw [hh,hpk];rfl
  obtain ⟨P,hP⟩:∃ P,pos s.peers id=P:=⟨_,rfl⟩
  have hpo:=ok.at hlt
  have hi:(if has s.peers id then (pos s.peers id:Int) else -1)=(P:Int):=by rw [hh,hP];rfl
  rw [hP] at hpk hlt hpo
  rw [hpk] at hpo
  obtain ⟨hpo1,hpo2,hpo3⟩:=hpo
  obtain ⟨lo1,lo2⟩:=hpo1.last
  have nw:=ok.now
  have HLv:=Lib.hid (fun A c w' (hr:Row w' A p.vals.length p.vals)=>level_lv p.cap s.least (s.now - p.last) A p.vals.length c p.vals w' hr ⟨hpo1.win.1,hpo1.win.2.1⟩ hpo1.win.2.2.1 hpo2 hpo1.win.2.2.2 ok.least (by omega))
  have HWin:=Lib.hid hpo1.win
  have HLe:=Lib.hid ok.least
  have HI:=Lib.hid hi
  have HE:=Lib.hid e4
  have HK:=Lib.hid ek
  have hPn:P<n:=by omega
  obtain ⟨tb,off,rfl,ltb,_,hpa⟩:=hpr.at hPn
  rw [hpk] at hpa
  obtain ⟨j0,j1,j2,j3,j4,j6,B,cc,j5,hin,_⟩:=hpa
  have HIn:=Lib.hid hin.1
  have p0':decide ((P:Int)<0)=false:=by simp
  obtain ⟨_,_,_,_,k4,k5,_,_,k8,_⟩:=hnd.cells
  have HK45:=Lib.hid (And.intro k4 k5)
  have sub1:IntKind.i64.wrap (s.now - p.last)=s.now - p.last:=IntWalk.i64_in _ (by omega)
  have p0:¬ (P:Int)<0:=by omega
  clear hnd hpr ok hk he hi e4 ek hh hP hpo1 hin
  go_enter Tryz.func125,Tryz.ntmps125
  go_wp2_with fail
  refine (HIx.out w.heap.size P _ (HPR.out.below (by repeat (first | (with_reducible exact Below.refl _ _) | (with_reducible refine bAl ?_ _) | (with_reducible refine bSc ?_ _) | (with_reducible refine Below.drew ?_) | (refine Below.trans ?_ (by assumption))))) (by simp [go_sem,↓IntWalk.iteOmega, *]) HI.out).mono ?_
  rintro e w1 ⟨rfl,hb1⟩
  have z1:=hb1.size
  have c1:=Below.cells hb1
  have f1:=Below.frozens hb1
  try simp only [World.size_alloc,World.size_setCell,World.size_drew] at z1 c1 f1
  go_wp2_with fail
  have HIn1:=Lib.hid (HIn.out.below (w':=w1.alloc (.cells #[.string p.id,.int .i64 p.inc,.int .i64 p.seq,.int .i64 p.drops,.int .i64 p.cap,.slice B p.vals.length cc,.int .i64 p.last] 193)) (by repeat (first | (with_reducible exact Below.refl _ _) | (with_reducible refine bAl ?_ _) | (with_reducible refine bSc ?_ _) | (with_reducible refine Below.drew ?_) | (with_reducible refine bTm ?_ hb1))))
  refine wp_region_quiet_all (Ext _) (by kernel_rfl) (by kernel_rfl) (Ext.drawn _) ?_
  repeat (first | go_big_quiet_skip | go_big_quiet_step (fail) | (refine BigFrame.wpQuiet_want rfl (fun K hK=>?_);apply Exists.intro;refine ⟨fun w2 h2=>?_,?_⟩;(next=>(have g1:=Below.cells h2.below;have g2:=Below.frozens h2.below;(try simp only [World.size_alloc,World.size_setCell] at g1 g2);first | (go_simp;(go_at_call 71;refine h2.calls (HLv.out B cc _ (HIn1.out.below h2.below)))) | (simp [go_sem,↓IntWalk.iteOmega, *];done) | (simp [go_sem,↓IntWalk.iteOmega, *];rfl))));(go_simp;refine hK _ ?_;clear hK K))
  refine wpQuiet_nil ?_
  intro w2 h2
  have hb2:=h2.below
  clear h2
  have z2:=hb2.size
  have c2:=Below.cells hb2
  have f2:=Below.frozens hb2
  try simp only [World.size_alloc,World.size_setCell,World.size_drew] at z2 c2 f2
  go_wp2_with fail
  go_ret2
  exact ⟨by rw [← HE.out,← HK.out];rfl,(by repeat (first | (with_reducible exact Below.refl _ _) | (with_reducible refine bAl ?_ _) | (with_reducible refine bSc ?_ _) | (with_reducible refine Below.drew ?_) | (with_reducible refine bTm ?_ hb2) | (with_reducible refine bTm ?_ hb1)))⟩
end Go.Proofs.YtnaebigoknfndaaGreatDoor
namespace Go.Proofs.YtnaebigoknfndaaGreatDoor
open Go Go.RowKit
structure Note where
 id:ByteArray
 theta:Int
 sus:Bool
def noteC (x:Note):List Value:=[.string x.id,.int .i64 x.theta,.bool x.sus]
def notesC (L:List Note):List Value:=L.flatMap noteC
theorem notesC_snoc (L:List Note) (x:Note):notesC (L ++ [x])=notesC L++noteC x:=by simp [notesC]
def onOf (s:NSt) (u:Sub):Bool:=decide (u.theta≤levN s u.id)
def upd (s:NSt) (u:Sub):Sub:={ u with on:=onOf s u }
def toldS (s:NSt):List Sub:=s.subs.map (upd s)
def noteOf (s:NSt) (u:Sub):List Note:=if onOf s u=u.on then [] else [⟨u.id,u.theta,onOf s u⟩]
def toldN (s:NSt):List Note:=s.subs.flatMap (noteOf s)
theorem subsC_set (L:List Sub) (k:Nat) (hk:k<L.length) (v:Bool):(subsC L).set (k * 3+2) (.bool v)=subsC (L.set k { L.getD k default with on:=v }):=by
 induction L generalizing k with
 | nil=>simp at hk
 | cons u L ih=>
  cases k with
  | zero=>rfl
  | succ k=>
   show (subC u++subsC L).set ((k+1) * 3+2) _=subC u++subsC (L.set k _)
   rw [List.set_append_right _ _ (by simp [subC];omega),show (k+1) * 3+2 - (subC u).length=k * 3+2 by simp [subC];omega,ih k (by simpa using hk)]
   simp
theorem own_setC {w:World} {base e s n c g:Nat} {xs:List Value} (h:w.ownsRow base e s (.slice (some ⟨g,0,none⟩) n c) n xs) (j:Nat) (v:Value):(w.setCell ⟨g,j,none⟩ v).ownsRow base e s (.slice (some ⟨g,0,none⟩) n c) n (xs.set j v):=by
 have hl:=h.1
 rcases h.2 with ⟨h,_⟩ | ⟨g',c',cur,h,hbg,hg,hnc,hcm,hcs,htk⟩
 ·cases h
 simp only [Value.slice.injEq,Option.some.injEq,Addr.mk.injEq,and_true,true_and] at h
 obtain ⟨rfl,rfl⟩:=h
 refine ⟨by simpa using hl,.inr ⟨g,c,cur.setIfInBounds j v,rfl,hbg,by simp [World.setCell,Array.getElem?_modify,hg],hnc,hcm,by simpa using hcs,?_⟩⟩
 rw [Array.toList_setIfInBounds,List.take_set,htk]
theorem NRep.sub {w:World} {b:Nat} {s:NSt} {f:Nat→Prop} (h:NRep w b s f) {k:Nat} (hk:k<s.subs.length) :
  ∃ g c,w.cell? ⟨b,9,none⟩=some (.slice (some ⟨g,0,none⟩) s.subs.length c)∧w.cell? ⟨g,k * 3,none⟩=some (.string (s.subs.getD k default).id)∧w.cell? ⟨g,k * 3+1,none⟩=some (.int .i64 (s.subs.getD k default).theta) ∧
   w.cell? ⟨g,k * 3+2,none⟩=some (.bool (s.subs.getD k default).on)∧(∀ o,w.frozen? ⟨g,o,none⟩=false)∧f g∧g<w.heap.size ∧
   ∀ v,NRep (w.setCell ⟨g,k * 3+2,none⟩ (.bool v)) b { s with subs:=s.subs.set k { s.subs.getD k default with on:=v } } f:=by
 obtain ⟨A,n,c,S,h1,h2,h3,h4,h5,h6⟩:=h
 have h4':=h4
 rcases h4.2 with ⟨_,h0⟩ | ⟨g,c',cur,rfl,_,hg,hnc,hcm,hcs,htk⟩
 ·omega
 obtain ⟨_,_,_,_,_,_,_,_,_,k9⟩:=h1.cells
 have cell:∀ i,i<3→w.cell? ⟨g,k * 3+i,none⟩=(subC (s.subs.getD k default))[i]?:=fun i hi=>by
  have hs:=subsC_get s.subs k i hk hi
  have hi':i<(subC (s.subs.getD k default)).length:=by simpa [subC] using hi
  have:=h4.cells (g:=g) rfl (k * 3+i) ((subC (s.subs.getD k default))[i]) (by rw [hs,List.getElem?_eq_getElem hi'])
  rw [Go.WideShapes.add_plain,Nat.zero_add] at this
  rw [this,List.getElem?_eq_getElem hi']
 obtain ⟨hfg,hgb⟩:=h5 g rfl
 refine ⟨g,c',k9,cell 0 (by omega),cell 1 (by omega),cell 2 (by omega),(block_cells hg).2,hfg,(Array.getElem?_eq_some_iff.1 hg).1,fun v=>?_⟩
 refine ⟨A,n,c,.slice (some ⟨g,0,none⟩) s.subs.length c',?_,h2,?_,?_,h5,by simpa using h6⟩
 ·exact h1.same (Below.heap_setCell _ _ _ _ (Ne.symm hgb))
 ·exact h3.same ⟨by simp,fun x _ hx=>Below.heap_setCell _ _ _ _ (fun e=>hx.2.2 (by rw [e];rfl))⟩
 ·have:=own_setC h4' (k * 3+2) (.bool v)
  rw [subsC_set _ _ hk] at this
  simpa using this
theorem info_note:(Tryz.prog.info? 155).map (fun i=>(i.zero,i.size,i.bytes))=some (some (.agg #[.string ⟨#[]⟩,.int .i64 0,.bool false]),3,32):=by kernel_rfl
theorem info_notes:Tryz.prog.underlying 111=some (.slice 155):=by kernel_rfl
def midS (s:NSt) (k:Nat):List Sub:=(s.subs.take k).map (upd s)++s.subs.drop k
theorem midS_len (s:NSt) (k:Nat):(midS s k).length=s.subs.length:=by
 simp [midS];omega
theorem midS_get (s:NSt) (k:Nat) (hk:k<s.subs.length):(midS s k).getD k default=s.subs.getD k default:=by
 unfold midS
 rw [List.getD_eq_getElem?_getD,List.getElem?_append_right (by simp;omega)]
 simp [List.getD_eq_getElem?_getD,Nat.min_eq_left (Nat.le_of_lt hk)]
theorem midS_set (s:NSt) (k:Nat) (hk:k<s.subs.length):(midS s k).set k (upd s (s.subs.getD k default))=midS s (k+1):=by
 unfold midS
 rw [List.set_append_right _ _ (by simp;omega),List.take_succ_eq_append_getElem hk,List.drop_eq_getElem_cons hk]
 simp only [List.map_append,List.map_cons,List.map_nil,List.length_map,List.length_take,Nat.min_eq_left (Nat.le_of_lt hk),Nat.sub_self,List.set_cons_zero,List.append_assoc,List.cons_append,List.nil_append,List.getD_eq_getElem?_getD,List.getElem?_eq_getElem hk,Option.getD_some]
theorem midS_same (s:NSt) (k:Nat) (hk:k<s.subs.length) (h:onOf s (s.subs.getD k default)=(s.subs.getD k default).on):midS s k=midS s (k+1):=by
 rw [← midS_set s k hk]
 have e:upd s (s.subs.getD k default)=(midS s k).getD k default:=by
  rw [midS_get s k hk];unfold upd;rw [h]
 rw [e]
 apply List.ext_getElem?
 intro j
 rw [List.getElem?_set]
 split
 ·rename_i hj
  subst hj
  have:k<(midS s k).length:=by rw [midS_len];exact hk
  simp [List.getD_eq_getElem?_getD,this]
 ·rfl
theorem told_snoc (s:NSt) (k:Nat) (hk:k<s.subs.length):(s.subs.take (k+1)).flatMap (noteOf s)=(s.subs.take k).flatMap (noteOf s)++noteOf s (s.subs.getD k default):=by
 rw [List.take_succ_eq_append_getElem hk,List.flatMap_append]
 simp only [List.flatMap_cons,List.flatMap_nil,List.append_nil,List.getD_eq_getElem?_getD,List.getElem?_eq_getElem hk,Option.getD_some]
theorem told_le (s:NSt):∀ L:List Sub,(L.flatMap (noteOf s)).length≤L.length
 | []=>by simp
 | u :: L=>by
   have:=told_le s L
   have h:(noteOf s u).length≤1:=by unfold noteOf;split <;> simp
   rw [List.flatMap_cons,List.length_append,List.length_cons];omega
theorem NOK.mid {s:NSt} (h:NOK s) (k:Nat):NOK { s with subs:=midS s k }:=⟨h.id,h.inc,h.every,h.cap,h.least,h.now,h.seq,h.drops,h.tab,h.wins,by rw [midS_len];exact h.subs⟩
theorem told_ok (b:Nat) (s:NSt) (f:Nat→Prop) (w:World) (h:NRep w b s f) (ok:NOK s) :
  Calls Tryz.prog 150 #[.pointer (some ⟨b,0,none⟩)] w fun e w'=>∃ A' c',e=.returned (.slice A' (toldN s).length c')∧w'.ownsRow w.heap.size 155 3 (.slice A' (toldN s).length c') (toldN s).length (notesC (toldN s))∧NRep w' b { s with subs:=toldS s } f∧Kept f w w':=by
 obtain ⟨A,pn,pc,S,hnd,_,_,hsub,_,hfl⟩:=h
 have hform:=own_form hsub
 obtain ⟨SA,Sc,rfl,_,_,_⟩:=hform
 obtain ⟨_,_,_,_,_,_,_,_,_,k9⟩:=hnd.cells
 have hbl:=hnd.lt
 have h8:=ok.subs
 have HFl:=Lib.hid hfl
 have HRep:=Lib.hid (show NRep w b s f from ⟨A,pn,pc,.slice SA s.subs.length Sc,hnd,‹_›,‹_›,hsub,‹_›,hfl⟩)
 obtain ⟨n,hn⟩:∃ n,s.subs.length=n:=⟨_,rfl⟩
 rw [hn] at k9
 have HN:=Lib.hid hn
 have HOk:=Lib.hid (fun k=>ok.mid k)
 obtain ⟨i0,hi,hz0,hz1,hz2⟩:=info_parts info_note
 clear hnd hsub hfl hn ok
 go_enter Tryz.func150,Tryz.ntmps150
 go_wp2_with fail
 go_loopw [3,14] (fun v i wr=>∃ (k m:Nat) (A':Option Addr) (c':Nat),k≤n∧i=.int .i64 k∧m=((s.subs.take k).flatMap (noteOf s)).length∧v=.slice A' m c'∧wr.ownsRow w.heap.size 155 3 (.slice A' m c') m (notesC ((s.subs.take k).flatMap (noteOf s)))∧NRep wr b { s with subs:=midS s k } f∧Kept f w wr) (fun _ i _=>n - (intOf i).toNat)
 case atStart=>exact ⟨0,0,none,0,Nat.zero_le _,rfl,rfl,rfl,World.ownsRow_nil _ _ _ _,by have:=HRep.out;simpa [midS] using this,Kept.refl _ _⟩
 case round=>
  obtain ⟨k,m,A',c',hk,rfl,hm,rfl,hown,hrep,hkept⟩:=hrel
  have sz0:=hkept.size
  by_cases hlt:k<n
  ·have hks:k<s.subs.length:=by have:=HN.out;omega
   obtain ⟨g,c,m9,j0,j1,j2,jf,fg,gl,hset⟩:=hrep.sub (k:=k) (by rw [midS_len];exact hks)
   rw [show ({ s with subs:=midS s k }:NSt).subs=midS s k from rfl,midS_get s k hks] at j0 j1 j2 hset
   rw [show ({ s with subs:=midS s k }:NSt).subs.length=n by rw [midS_len,HN.out]] at m9
   obtain ⟨u,hu⟩:∃ u,s.subs.getD k default=u:=⟨_,rfl⟩
   rw [hu] at j0 j1 j2 hset
   have hbl2:b<wr.heap.size:=by omega
   obtain ⟨lvl,hlvl⟩:∃ x,levN s u.id=x:=⟨_,rfl⟩
   have HLv:=Lib.hid (nlevel_ok b _ f u.id wr hrep (HOk.out k) lvl _ hlvl rfl)
   obtain ⟨e0,he0⟩:∃ e,(if has ({ s with subs:=midS s k }:NSt).peers u.id=true then (0:Int) else 4)=e:=⟨_,rfl⟩
   rw [he0] at HLv
   have hon:onOf s u=decide (u.theta≤lvl):=by unfold onOf;rw [hlvl]
   have hsn:=told_snoc s k hks
   rw [hu] at hsn
   have hm8:m≤8:=by have:=told_le s (s.subs.take k);rw [← hm,List.length_take] at this;omega
   obtain ⟨bn,hbn⟩:∃ x,decide (u.theta≤lvl)=x:=⟨_,rfl⟩
   rw [hbn] at hon
   obtain ⟨o,ho⟩:∃ x,u.on=x:=⟨_,rfl⟩
   rw [ho] at j2
   have HO:=Lib.hid hown
   have HRp:=Lib.hid hrep
   have HKp:=Lib.hid hkept
   have HSt:=Lib.hid hset
   have HFl2:=Lib.hid (fun x hx=>(HFl.out x hx))
   clear he0 hlvl hown hrep hkept hset
   by_cases hsame:bn=o
   ·subst hsame
    have hno:noteOf s u = []:=by unfold noteOf;rw [hon,ho];simp
    rw [hno,List.append_nil] at hsn
    have HSn:=Lib.hid hsn
    have HMs:=Lib.hid (midS_same s k hks (by rw [hu,hon,ho]))
    clear hno hsn hon ho hu
    have hm':=Lib.hid hm
    clear hm
    cases bn
    all_goals
     go_wp2_with fail
     refine HLv.out.mono ?_
     rintro e w2 ⟨rfl,hb2⟩
     have z2:=hb2.size
     have j22:=(hb2.cell (p:=⟨g,k * 3+2,none⟩) gl).trans j2
     have j12:=(hb2.cell (p:=⟨g,k * 3+1,none⟩) gl).trans j1
     have O2:=Lib.hid (own_below HO.out hb2)
     have R2:=Lib.hid (HRp.out.below hb2)
     have K2:=Lib.hid (HKp.out.trans (Kept.of_below (f:=f) hb2) (fun x _ hx=>hx))
     go_wp2_with fail
     go_roundw
     case rel=>exact ⟨k+1,m,A',c',by omega,by go_num,by rw [HSn.out];exact hm'.out,rfl,by rw [HSn.out];exact O2.out,by rw [← HMs.out];exact R2.out,K2.out⟩
     case measure=>simp [intOf];omega
   ·cases bn <;> cases o
    ·exact absurd rfl hsame
    ·have hno:noteOf s u = [⟨u.id,u.theta,false⟩]:=by unfold noteOf;rw [hon,ho,if_neg (by simp)]
     rw [hno] at hsn
     have HSn:=Lib.hid hsn
     have HMs:=Lib.hid (show (midS s k).set k { u with on:=false }=midS s (k+1) by rw [← midS_set s k hks,hu];unfold upd;rw [hon])
     have HU:=Lib.hid hu
     have hb3:lvl<u.theta:=by simpa using hbn
     have hb4:decide (lvl<u.theta)=true:=by simp;omega
     have hm':=Lib.hid hm
     clear hno hsn hon ho hu hm
     have hlg:g<w.heap.size:=HFl.out g fg
     go_wp2_with fail
     refine HLv.out.mono ?_
     rintro e w2 ⟨rfl,hb2⟩
     have z2:=hb2.size
     have j22:=(hb2.cell (p:=⟨g,k * 3+2,none⟩) gl).trans j2
     have j12:=(hb2.cell (p:=⟨g,k * 3+1,none⟩) gl).trans j1
     have j02:=(hb2.cell (p:=⟨g,k * 3,none⟩) gl).trans j0
     have jf2:∀ o,w2.frozen? ⟨g,o,none⟩=false:=fun o=>(World.frozen?_of_block (hb2.block g gl)).trans (jf o)
     have O2:=Lib.hid (own_below HO.out hb2)
     have R2:=HRp.out.below hb2
     obtain ⟨g',c2,m92,x1,x2,x3,x4,x5,x6,hset2⟩:=R2.sub (k:=k) (by rw [midS_len];exact hks)
     have eg:g'=g:=by
      have:=(hb2.cell (p:=⟨b,9,none⟩) hbl2).trans m9
      rw [m92] at this
      simp only [Option.some.injEq,Value.slice.injEq,Addr.mk.injEq,and_true] at this
      exact this.1
     subst eg
     have R3:=Lib.hid (show NRep (w2.setCell ⟨g',k * 3+2,none⟩ (.bool false)) b { s with subs:=midS s (k+1) } f by
      have h:=hset2 false
      rw [show ({ s with subs:=midS s k }:NSt).subs=midS s k from rfl,midS_get s k hks] at h
      rw [HU.out,HMs.out] at h
      exact h)
     have O3:=Lib.hid (own_set O2.out (b:=g') hlg (k * 3+2) (.bool false))
     have K2:=Lib.hid (HKp.out.trans (Kept.of_below (f:=f) hb2) (fun x _ hx=>hx))
     have j03:(w2.setCell ⟨g',k * 3+2,none⟩ (.bool false)).cell? ⟨g',k * 3,none⟩=some (.string u.id):=(World.cell?_setCell_other _ _ _ _ (fun e=>by simp at e)).trans j02
     have j13:(w2.setCell ⟨g',k * 3+2,none⟩ (.bool false)).cell? ⟨g',k * 3+1,none⟩=some (.int .i64 u.theta):=(World.cell?_setCell_other _ _ _ _ (fun e=>by simp at e)).trans j12
     have zz3:(w2.setCell ⟨g',k * 3+2,none⟩ (.bool false)).heap.size=w2.heap.size:=by simp
     have gl2:g'<w2.heap.size:=by omega
     clear hb2 R2 m92 hset2 j0 j1 j2 jf x1 x2 x3 x4 x5 x6
     have KEPT3:=Lib.hid (show Kept f w (w2.setCell ⟨g',k * 3+2,none⟩ (.bool false)) from ⟨K2.out.os,K2.out.tape,K2.out.output,by simp;omega,fun x hx hfx=>(Below.heap_setCell _ _ _ _ (fun e=>hfx (by rw [e];exact fg))).trans (K2.out.block x hx hfx)⟩)
     go_wp2_with fail
     generalize w2.setCell ⟨g',k * 3+2,none⟩ (.bool false)=w3 at R3 O3 j03 j13 zz3 KEPT3 ⊢
     have K3:=Lib.hid (show Kept f w w3 from KEPT3.out)
     have gl3:g'<w3.heap.size:=by omega
     have kk:w3.drew.cell? ⟨g',k * 3,none⟩=some (.string u.id)∧w3.drew.cell? ⟨g',k * 3+1,none⟩=some (.int .i64 u.theta):=⟨j03,j13⟩
     have M3:=Lib.hid kk
     have z3':w.heap.size≤w3.heap.size:=by omega
     clear zz3 z2 j02 j12 j22 jf2 j03 j13 sz0
     refine wp_region_M (fun w'=>w'.cell? ⟨g',k * 3,none⟩=some (.string u.id)∧w'.cell? ⟨g',k * 3+1,none⟩=some (.int .i64 u.theta)) (fun j=>decide (12≤j)) 14 rfl (by kernel_rfl) ?_
     (refine wpAnyM_tk (i:=0) (v:=?_) rfl (Or.inl ⟨by rfl,?_⟩) kk ?_;(rotate_left;(intro w hSw;(try dsimp only at hSw);go_simp;try with_reducible rfl));(try simp only [Act.put,List.setIfInBounds_toArray,List.set_cons_zero,List.set_cons_succ]))
     (refine wpAnyM_tk (i:=1) (v:=?_) rfl (Or.inl ⟨by rfl,?_⟩) kk ?_;(rotate_left;(intro w hSw;(try dsimp only at hSw);go_simp;try with_reducible rfl));(try simp only [Act.put,List.setIfInBounds_toArray,List.set_cons_zero,List.set_cons_succ]))
     (refine wpAnyM_tk (i:=2) (v:=?_) rfl (Or.inl ⟨by rfl,?_⟩) kk ?_;(rotate_left;(intro w hSw;(try dsimp only at hSw);go_simp;try with_reducible rfl));(try simp only [Act.put,List.setIfInBounds_toArray,List.set_cons_zero,List.set_cons_succ]))
     (refine wpAnyM_tk (i:=3) (v:=?_) rfl (Or.inl ⟨by rfl,?_⟩) kk ?_;(rotate_left;(intro w hSw;(try dsimp only at hSw);go_simp;try with_reducible rfl));(try simp only [Act.put,List.setIfInBounds_toArray,List.set_cons_zero,List.set_cons_succ]))
     (refine wpAnyM_tk (i:=4) (v:=?_) rfl (Or.inl ⟨by rfl,?_⟩) kk ?_;(rotate_left;(intro w hSw;(try dsimp only at hSw);go_simp;try with_reducible rfl));(try simp only [Act.put,List.setIfInBounds_toArray,List.set_cons_zero,List.set_cons_succ]))
     (refine wpAnyM_tk (i:=5) (v:=?_) rfl (Or.inl ⟨by rfl,?_⟩) kk ?_;(rotate_left;(intro w hSw;(try dsimp only at hSw);go_simp;try with_reducible rfl));(try simp only [Act.put,List.setIfInBounds_toArray,List.set_cons_zero,List.set_cons_succ]))
     (refine wpAnyM_tk (i:=6) (v:=?_) rfl (Or.inl ⟨by rfl,?_⟩) kk ?_;(rotate_left;(intro w hSw;(try dsimp only at hSw);go_simp;try with_reducible rfl));(try simp only [Act.put,List.setIfInBounds_toArray,List.set_cons_zero,List.set_cons_succ]))
     (refine wpAnyM_tk (i:=7) (v:=?_) rfl (Or.inl ⟨by rfl,?_⟩) kk ?_;(rotate_left;(intro w hSw;(try dsimp only at hSw);go_simp;try with_reducible rfl));(try simp only [Act.put,List.setIfInBounds_toArray,List.set_cons_zero,List.set_cons_succ]))
     (refine wpAnyM_tk (i:=8) (v:=?_) rfl (Or.inl ⟨by rfl,?_⟩) kk ?_;(rotate_left;(intro w hSw;(try dsimp only at hSw);go_simp;try with_reducible rfl));(try simp only [Act.put,List.setIfInBounds_toArray,List.set_cons_zero,List.set_cons_succ]))
     (refine wpAnyM_tk (i:=9) (v:=?_) rfl (Or.inl ⟨by rfl,?_⟩) kk ?_;(rotate_left;(intro w hSw;(try dsimp only at hSw);go_simp;try with_reducible rfl));(try simp only [Act.put,List.setIfInBounds_toArray,List.set_cons_zero,List.set_cons_succ]))
     (refine wpAnyM_tk (i:=10) (v:=?_) rfl (Or.inl ⟨by rfl,?_⟩) kk ?_;(rotate_left;(intro w hSw;(try dsimp only at hSw);go_simp;try with_reducible rfl));(try simp only [Act.put,List.setIfInBounds_toArray,List.set_cons_zero,List.set_cons_succ]))
     refine wpAnyM_one (i:=11) (by kernel_rfl) rfl (fun K hK=>?_)
     go_simp
     have al:∀ p,p.block<w3.heap.size→((w3.alloc (.cells #[.string u.id,.int .i64 u.theta,.bool false] 155)).drew).cell? p=w3.cell? p:=fun p hp=>World.cell?_alloc_lt _ _ _ hp
     refine hK _ _ (fun _=>⟨(al _ gl3).trans M3.out.1,(al _ gl3).trans M3.out.2⟩) ?_
     clear hK K
     refine wpAnyM_one (i:=12) (by kernel_rfl) rfl (fun K hK=>?_)
     refine step_append_lies _ (by rfl) _ _ _ (by rfl) w.heap.size 155 i0 _ 3 32 info_notes hi hz0 hz1 hz2 rfl (by omega) _ m (notesC ((s.subs.take k).flatMap (noteOf s))) (by rfl) ((O3.out.alloc _).drew)
      ⟨w3.heap.size,0,none⟩ 1 1 (noteC ⟨u.id,u.theta,false⟩) (by rfl) (by rfl) (World.news_of_block (cs:=#[.string u.id,.int .i64 u.theta,.bool false]) (t:=155) (fr:=(0,0)) (heap_alloc_new w3 _)) (by intro x hx;simp [noteC] at hx;rcases hx with rfl | rfl | rfl <;> rfl)
      (by omega) (by unfold maxLen;omega) (by omega) (by simp;omega) (w3.heap.size+1) (by simp) ?_
     intro gg cap' wq ownq grq atq ltq
     have hnb:∀ x,x<w.heap.size→wq.heap[x]? = w3.heap[x]?:=fun x hx=>(grq.block x (by simp;omega) (fun e=>by have:=(O3.out.lt _ e.symm).1;omega)).trans (Below.heap_alloc w3 _ x (by omega))
     have OQ:=Lib.hid (show wq.ownsRow w.heap.size 155 3 (.slice (some ⟨gg,0,none⟩) (m+1) cap') (m+1) (notesC ((s.subs.take (k+1)).flatMap (noteOf s))) by rw [HSn.out,notesC_snoc];exact ownq)
     have zq:=grq.size
     simp only [World.size_alloc,World.size_drew] at zq
     have RQ:=Lib.hid (R3.out.same (w':=wq) ⟨by omega,fun x _ hfx=>hnb x (HFl.out x hfx)⟩)
     have KQ:=Lib.hid (show Kept f w wq from ⟨grq.os.trans K3.out.os,grq.tape.trans K3.out.tape,grq.output.trans K3.out.output,by omega,fun x hx hfx=>(hnb x hx).trans (K3.out.block x hx hfx)⟩)
     clear ownq grq atq hnb al kk
     refine hK _ _ (fun h=>by cases h) ?_
     clear hK K
     refine wpAnyM_one (i:=13) (by kernel_rfl) rfl (fun K hK=>?_)
     go_simp
     refine hK _ _ (fun h=>by cases h) ?_
     clear hK K
     refine wpAnyM_done (by kernel_rfl) ?_ _
     go_wp2_with fail
     go_roundw
     case rel=>exact ⟨k+1,m+1,some ⟨gg,0,none⟩,cap',by omega,by go_num,by rw [HSn.out,List.length_append,hm'.out];rfl,rfl,OQ.out,RQ.out,KQ.out⟩
     case measure=>simp [intOf];omega
    ·have hno:noteOf s u = [⟨u.id,u.theta,true⟩]:=by unfold noteOf;rw [hon,ho,if_neg (by simp)]
     rw [hno] at hsn
     have HSn:=Lib.hid hsn
     have HMs:=Lib.hid (show (midS s k).set k { u with on:=true }=midS s (k+1) by rw [← midS_set s k hks,hu];unfold upd;rw [hon])
     have HU:=Lib.hid hu
     have hb3:u.theta≤lvl:=by simpa using hbn
     have hm':=Lib.hid hm
     clear hno hsn hon ho hu hm
     have hlg:g<w.heap.size:=HFl.out g fg
     go_wp2_with fail
     refine HLv.out.mono ?_
     rintro e w2 ⟨rfl,hb2⟩
     have z2:=hb2.size
     have j22:=(hb2.cell (p:=⟨g,k * 3+2,none⟩) gl).trans j2
     have j12:=(hb2.cell (p:=⟨g,k * 3+1,none⟩) gl).trans j1
     have j02:=(hb2.cell (p:=⟨g,k * 3,none⟩) gl).trans j0
     have jf2:∀ o,w2.frozen? ⟨g,o,none⟩=false:=fun o=>(World.frozen?_of_block (hb2.block g gl)).trans (jf o)
     have O2:=Lib.hid (own_below HO.out hb2)
     have R2:=HRp.out.below hb2
     obtain ⟨g',c2,m92,x1,x2,x3,x4,x5,x6,hset2⟩:=R2.sub (k:=k) (by rw [midS_len];exact hks)
     have eg:g'=g:=by
      have:=(hb2.cell (p:=⟨b,9,none⟩) hbl2).trans m9
      rw [m92] at this
      simp only [Option.some.injEq,Value.slice.injEq,Addr.mk.injEq,and_true] at this
      exact this.1
     subst eg
     have R3:=Lib.hid (show NRep (w2.setCell ⟨g',k * 3+2,none⟩ (.bool true)) b { s with subs:=midS s (k+1) } f by
      have h:=hset2 true
      rw [show ({ s with subs:=midS s k }:NSt).subs=midS s k from rfl,midS_get s k hks] at h
      rw [HU.out,HMs.out] at h
      exact h)
     have O3:=Lib.hid (own_set O2.out (b:=g') hlg (k * 3+2) (.bool true))
     have K2:=Lib.hid (HKp.out.trans (Kept.of_below (f:=f) hb2) (fun x _ hx=>hx))
     have j03:(w2.setCell ⟨g',k * 3+2,none⟩ (.bool true)).cell? ⟨g',k * 3,none⟩=some (.string u.id):=(World.cell?_setCell_other _ _ _ _ (fun e=>by simp at e)).trans j02
     have j13:(w2.setCell ⟨g',k * 3+2,none⟩ (.bool true)).cell? ⟨g',k * 3+1,none⟩=some (.int .i64 u.theta):=(World.cell?_setCell_other _ _ _ _ (fun e=>by simp at e)).trans j12
     have zz3:(w2.setCell ⟨g',k * 3+2,none⟩ (.bool true)).heap.size=w2.heap.size:=by simp
     have gl2:g'<w2.heap.size:=by omega
     clear hb2 R2 m92 hset2 j0 j1 j2 jf x1 x2 x3 x4 x5 x6
     have KEPT3:=Lib.hid (show Kept f w (w2.setCell ⟨g',k * 3+2,none⟩ (.bool true)) from ⟨K2.out.os,K2.out.tape,K2.out.output,by simp;omega,fun x hx hfx=>(Below.heap_setCell _ _ _ _ (fun e=>hfx (by rw [e];exact fg))).trans (K2.out.block x hx hfx)⟩)
     go_wp2_with fail
     generalize w2.setCell ⟨g',k * 3+2,none⟩ (.bool true)=w3 at R3 O3 j03 j13 zz3 KEPT3 ⊢
     have K3:=Lib.hid (show Kept f w w3 from KEPT3.out)
     have gl3:g'<w3.heap.size:=by omega
     have kk:w3.drew.cell? ⟨g',k * 3,none⟩=some (.string u.id)∧w3.drew.cell? ⟨g',k * 3+1,none⟩=some (.int .i64 u.theta):=⟨j03,j13⟩
     have M3:=Lib.hid kk
     have z3':w.heap.size≤w3.heap.size:=by omega
     clear zz3 z2 j02 j12 j22 jf2 j03 j13 sz0
     refine wp_region_M (fun w'=>w'.cell? ⟨g',k * 3,none⟩=some (.string u.id)∧w'.cell? ⟨g',k * 3+1,none⟩=some (.int .i64 u.theta)) (fun j=>decide (12≤j)) 14 rfl (by kernel_rfl) ?_
     (refine wpAnyM_tk (i:=0) (v:=?_) rfl (Or.inl ⟨by rfl,?_⟩) kk ?_;(rotate_left;(intro w hSw;(try dsimp only at hSw);go_simp;try with_reducible rfl));(try simp only [Act.put,List.setIfInBounds_toArray,List.set_cons_zero,List.set_cons_succ]))
     (refine wpAnyM_tk (i:=1) (v:=?_) rfl (Or.inl ⟨by rfl,?_⟩) kk ?_;(rotate_left;(intro w hSw;(try dsimp only at hSw);go_simp;try with_reducible rfl));(try simp only [Act.put,List.setIfInBounds_toArray,List.set_cons_zero,List.set_cons_succ]))
     (refine wpAnyM_tk (i:=2) (v:=?_) rfl (Or.inl ⟨by rfl,?_⟩) kk ?_;(rotate_left;(intro w hSw;(try dsimp only at hSw);go_simp;try with_reducible rfl));(try simp only [Act.put,List.setIfInBounds_toArray,List.set_cons_zero,List.set_cons_succ]))
     (refine wpAnyM_tk (i:=3) (v:=?_) rfl (Or.inl ⟨by rfl,?_⟩) kk ?_;(rotate_left;(intro w hSw;(try dsimp only at hSw);go_simp;try with_reducible rfl));(try simp only [Act.put,List.setIfInBounds_toArray,List.set_cons_zero,List.set_cons_succ]))
     (refine wpAnyM_tk (i:=4) (v:=?_) rfl (Or.inl ⟨by rfl,?_⟩) kk ?_;(rotate_left;(intro w hSw;(try dsimp only at hSw);go_simp;try with_reducible rfl));(try simp only [Act.put,List.setIfInBounds_toArray,List.set_cons_zero,List.set_cons_succ]))
     (refine wpAnyM_tk (i:=5) (v:=?_) rfl (Or.inl ⟨by rfl,?_⟩) kk ?_;(rotate_left;(intro w hSw;(try dsimp only at hSw);go_simp;try with_reducible rfl));(try simp only [Act.put,List.setIfInBounds_toArray,List.set_cons_zero,List.set_cons_succ]))
     (refine wpAnyM_tk (i:=6) (v:=?_) rfl (Or.inl ⟨by rfl,?_⟩) kk ?_;(rotate_left;(intro w hSw;(try dsimp only at hSw);go_simp;try with_reducible rfl));(try simp only [Act.put,List.setIfInBounds_toArray,List.set_cons_zero,List.set_cons_succ]))
     (refine wpAnyM_tk (i:=7) (v:=?_) rfl (Or.inl ⟨by rfl,?_⟩) kk ?_;(rotate_left;(intro w hSw;(try dsimp only at hSw);go_simp;try with_reducible rfl));(try simp only [Act.put,List.setIfInBounds_toArray,List.set_cons_zero,List.set_cons_succ]))
     (refine wpAnyM_tk (i:=8) (v:=?_) rfl (Or.inl ⟨by rfl,?_⟩) kk ?_;(rotate_left;(intro w hSw;(try dsimp only at hSw);go_simp;try with_reducible rfl));(try simp only [Act.put,List.setIfInBounds_toArray,List.set_cons_zero,List.set_cons_succ]))
     (refine wpAnyM_tk (i:=9) (v:=?_) rfl (Or.inl ⟨by rfl,?_⟩) kk ?_;(rotate_left;(intro w hSw;(try dsimp only at hSw);go_simp;try with_reducible rfl));(try simp only [Act.put,List.setIfInBounds_toArray,List.set_cons_zero,List.set_cons_succ]))
     (refine wpAnyM_tk (i:=10) (v:=?_) rfl (Or.inl ⟨by rfl,?_⟩) kk ?_;(rotate_left;(intro w hSw;(try dsimp only at hSw);go_simp;try with_reducible rfl));(try simp only [Act.put,List.setIfInBounds_toArray,List.set_cons_zero,List.set_cons_succ]))
     refine wpAnyM_one (i:=11) (by kernel_rfl) rfl (fun K hK=>?_)
     go_simp
     have al:∀ p,p.block<w3.heap.size→((w3.alloc (.cells #[.string u.id,.int .i64 u.theta,.bool true] 155)).drew).cell? p=w3.cell? p:=fun p hp=>World.cell?_alloc_lt _ _ _ hp
     refine hK _ _ (fun _=>⟨(al _ gl3).trans M3.out.1,(al _ gl3).trans M3.out.2⟩) ?_
     clear hK K
     refine wpAnyM_one (i:=12) (by kernel_rfl) rfl (fun K hK=>?_)
     refine step_append_lies _ (by rfl) _ _ _ (by rfl) w.heap.size 155 i0 _ 3 32 info_notes hi hz0 hz1 hz2 rfl (by omega) _ m (notesC ((s.subs.take k).flatMap (noteOf s))) (by rfl) ((O3.out.alloc _).drew)
      ⟨w3.heap.size,0,none⟩ 1 1 (noteC ⟨u.id,u.theta,true⟩) (by rfl) (by rfl) (World.news_of_block (cs:=#[.string u.id,.int .i64 u.theta,.bool true]) (t:=155) (fr:=(0,0)) (heap_alloc_new w3 _)) (by intro x hx;simp [noteC] at hx;rcases hx with rfl | rfl | rfl <;> rfl)
      (by omega) (by unfold maxLen;omega) (by omega) (by simp;omega) (w3.heap.size+1) (by simp) ?_
     intro gg cap' wq ownq grq atq ltq
     have hnb:∀ x,x<w.heap.size→wq.heap[x]? = w3.heap[x]?:=fun x hx=>(grq.block x (by simp;omega) (fun e=>by have:=(O3.out.lt _ e.symm).1;omega)).trans (Below.heap_alloc w3 _ x (by omega))
     have OQ:=Lib.hid (show wq.ownsRow w.heap.size 155 3 (.slice (some ⟨gg,0,none⟩) (m+1) cap') (m+1) (notesC ((s.subs.take (k+1)).flatMap (noteOf s))) by rw [HSn.out,notesC_snoc];exact ownq)
     have zq:=grq.size
     simp only [World.size_alloc,World.size_drew] at zq
     have RQ:=Lib.hid (R3.out.same (w':=wq) ⟨by omega,fun x _ hfx=>hnb x (HFl.out x hfx)⟩)
     have KQ:=Lib.hid (show Kept f w wq from ⟨grq.os.trans K3.out.os,grq.tape.trans K3.out.tape,grq.output.trans K3.out.output,by omega,fun x hx hfx=>(hnb x hx).trans (K3.out.block x hx hfx)⟩)
     clear ownq grq atq hnb al kk
     refine hK _ _ (fun h=>by cases h) ?_
     clear hK K
     refine wpAnyM_one (i:=13) (by kernel_rfl) rfl (fun K hK=>?_)
     go_simp
     refine hK _ _ (fun h=>by cases h) ?_
     clear hK K
     refine wpAnyM_done (by kernel_rfl) ?_ _
     go_wp2_with fail
     go_roundw
     case rel=>exact ⟨k+1,m+1,some ⟨gg,0,none⟩,cap',by omega,by go_num,by rw [HSn.out,List.length_append,hm'.out];rfl,rfl,OQ.out,RQ.out,KQ.out⟩
     case measure=>simp [intOf];omega
    ·exact absurd rfl hsame
  ·obtain rfl:n=k:=by omega
   have hns:n=s.subs.length:=HN.out.symm
   have htk:(s.subs.take n).flatMap (noteOf s)=toldN s:=by rw [List.take_of_length_le (by omega)];rfl
   have hms:midS s n=toldS s:=by unfold midS toldS;rw [List.take_of_length_le (by omega),List.drop_of_length_le (by omega),List.append_nil]
   rw [htk] at hm hown
   rw [hms] at hrep
   subst hm
   have HO:=Lib.hid hown
   have HRp:=Lib.hid hrep
   have HKp:=Lib.hid hkept
   clear hown hrep hkept hns htk hms
   go_wp2_with fail
   go_ret
   exact ⟨A',c',rfl,HO.out,HRp.out,HKp.out⟩
end Go.Proofs.YtnaebigoknfndaaGreatDoor
namespace Go.Proofs.YtnaebigoknfndaaGreatDoor
open Go Go.RowKit
theorem tick_ok {b inc seq m:Nat} {s:NSt} {f:Nat→Prop} {g D:Int} (w:World) (hrep:NRep w b s f) (ok:NOK s) (hi':s.inc=inc) (hs':s.seq=seq)
  (hg:1≤g∧g≤1073741824) (hng:s.now+g≤1073741824) (hge:g / s.every<64) (hD:s.now / s.every=D) (hm:(s.now+g) / s.every=D+m) (hs:seq+m<2147483648) (hno:∀ t:NSt,t = { s with now:=s.now+g,seq:=((seq+m:Nat):Int) }→NOK t) :
  Calls Tryz.prog 122 #[.pointer (some ⟨b,0,none⟩),.int .i64 g] w fun e w'=>∃ t v A' c',t = { s with now:=s.now+g,seq:=((seq+m:Nat):Int) }∧e=.returned (.tuple #[v,.slice A' (toldN t).length c',.int .i64 0])∧w'.ownsRow w.heap.size 9 1 v m (sent s.id inc seq m) ∧
   w'.ownsRow w.heap.size 155 3 (.slice A' (toldN t).length c') (toldN t).length (notesC (toldN t))∧NRep w' b { t with subs:=toldS t } f∧Kept f w w':=by
 obtain ⟨PA,pn,pc,S,h,hfb,hpr,hsub,hsb,hfl⟩:=hrep
 have hid:=ok.id
 have hinc:inc<2147483648:=by have:=ok.inc;omega
 have hn:=ok.now.1
 have he:=ok.every
 rw [hi',hs'] at h
 obtain ⟨id,hid'⟩:∃ x,s.id=x:=⟨_,rfl⟩
 obtain ⟨every,hev'⟩:∃ x,s.every=x:=⟨_,rfl⟩
 obtain ⟨cap,hca'⟩:∃ x,s.cap=x:=⟨_,rfl⟩
 obtain ⟨least,hle'⟩:∃ x,s.least=x:=⟨_,rfl⟩
 obtain ⟨now,hno'⟩:∃ x,s.now=x:=⟨_,rfl⟩
 obtain ⟨drops,hdr'⟩:∃ x,s.drops=x:=⟨_,rfl⟩
 rw [hid',hev',hca',hle',hno',hdr'] at h
 rw [hid'] at hid ⊢
 rw [hev'] at he hge hD hm
 rw [hno'] at hn hng hD hm hno ⊢
 have HTold:=Lib.hid (fun w' (hr:NRep w' b { s with now:=now+g,seq:=((seq+m:Nat):Int) } f)=>told_ok b _ f w' hr (hno _ rfl))
 have HRest:=Lib.hid (show f b∧PRow w PA pn s.peers (fun x=>f x∧x≠b∧S.ownBlock≠some x)∧w.ownsRow 0 197 3 S s.subs.length (subsC s.subs)∧(∀ g,S.ownBlock=some g→f g∧g≠b)∧∀ x,f x→x<w.heap.size from ⟨hfb,hpr,hsub,hsb,hfl⟩)
 have HEq:=Lib.hid (show s.inc=inc∧s.id=id∧s.every=every∧s.cap=cap∧s.least=least∧s.drops=drops from ⟨hi',hid',hev',hca',hle',hdr'⟩)
 obtain ⟨P,hP⟩:∃ P,Value.slice PA pn pc=P:=⟨_,rfl⟩
 rw [hP] at h
 have HP:=Lib.hid hP
 clear hpr hsub hsb hfl hfb ok hi' hs' hid' hev' hca' hle' hno' hdr' hP hno
 obtain ⟨g1,g2⟩:=hg
 obtain ⟨e1,e2⟩:=he
 have D0:0≤D:=by rw [← hD];exact Int.ediv_nonneg hn (by omega)
 have Dn:D≤now:=by rw [← hD];exact Int.ediv_le_self _ hn
 have Mb:D+m≤now+g:=by rw [← hm];exact Int.ediv_le_self _ (by omega)
 have ge0:0≤g / every:=Int.ediv_nonneg (by omega) (by omega)
 have hm64:(m:Int)≤64:=by
  have a:=Int.emod_add_mul_ediv (now+g) every
  have b:=Int.emod_add_mul_ediv now every
  have c:=Int.emod_add_mul_ediv g every
  have a1:=Int.emod_nonneg (now+g) (show every≠0 by omega)
  have b2:=Int.emod_lt_of_pos now (show 0<every by omega)
  have c2:=Int.emod_lt_of_pos g (show 0<every by omega)
  rw [hm] at a
  rw [hD] at b
  have k1:every * (D+m)≤every * (D+(g / every+1))+(every - 1) - 1:=by
   rw [Int.mul_add] at a ⊢
   rw [Int.mul_add,Int.mul_add,Int.mul_one]
   omega
  rcases Int.lt_or_le (g / every+1) m with q | q
  ·have:=Int.mul_le_mul_of_nonneg_left (show D+(g / every+1+1)≤D+m by omega) (show 0≤every by omega)
   rw [Int.mul_add every D (g / every+1+1),Int.mul_add every (g / every+1) 1,Int.mul_one] at this
   rw [Int.mul_add every D (g / every+1)] at k1
   omega
  ·omega
 have hcond:∀ k:Nat,(D+1+k) * every≤now+g↔k<m:=fun k=>by
  rw [← Int.le_ediv_iff_mul_le (show 0<every by omega),hm];omega
 have hbd:∀ k:Nat,k≤m→0≤(D+1+k) * every∧(D+1+k) * every≤1073741824+16777216:=fun k hk=>by
  refine ⟨Int.mul_nonneg (by omega) (by omega),?_⟩
  have a:=Int.ediv_mul_le (now+g) (show every≠0 by omega)
  rw [hm] at a
  have b:=Int.mul_le_mul_of_nonneg_right (show D+1+k≤D+m+1 by omega) (show 0≤every by omega)
  rw [Int.add_mul (D+m) 1 every,Int.one_mul] at b
  omega
 have hnx:∀ k:Nat,(D+1+k) * every+every=(D+1+(k+1:Nat)) * every:=fun k=>by
  rw [show D+1+((k+1:Nat):Int)=D+1+k+1 by omega,Int.add_mul _ 1 every,Int.one_mul]
 have HE:=Lib.hid (fun q (hq:q<m) w'=>encode_ok id inc (seq+q+1) w' ⟨hid,hinc,by omega,by omega⟩)
 have HCo:=Lib.hid hcond
 have HBd:=Lib.hid hbd
 have HNx:=Lib.hid hnx
 have HN:=Lib.hid h
 have v1:IntKind.i64.wrap (now+g)=now+g:=IntWalk.i64_in _ (by omega)
 have v2:g.tdiv every=g / every:=Int.tdiv_eq_ediv_of_nonneg (by omega)
 have v3:IntKind.i64.wrap (g / every)=g / every:=IntWalk.i64_in _ (by omega)
 have v4:now.tdiv every=now / every:=Int.tdiv_eq_ediv_of_nonneg hn
 have v5:now / every=D:=hD
 have v6:IntKind.i64.wrap D=D:=IntWalk.i64_in _ (by omega)
 have v7:IntKind.i64.wrap (D+1)=D+1:=IntWalk.i64_in _ (by omega)
 obtain ⟨a0,ha0⟩:∃ a,(D+1) * every=a:=⟨_,rfl⟩
 have b0:=hbd 0 (by omega)
 rw [show D+1+((0:Nat):Int)=D+1 by omega,ha0] at b0
 have v8:IntKind.i64.wrap ((D+1) * every)=a0:=by rw [ha0];exact IntWalk.i64_in _ (by omega)
 have ne:(every==0)=false:=by simp;omega
 have ne':¬ every=0:=by omega
 have HA0:=Lib.hid ha0
 have n1:¬ g<1:=by omega
 have n2:¬ 1073741824<g:=by omega
 have n3:¬ 1073741824<now+g:=by omega
 have n4:¬ 64≤g / every:=by omega
 obtain ⟨k0,k1,k2,k3,k4,k5,k6,k7,k8,k9⟩:=h.cells
 have hfz:=h.frozen
 have hlt:=h.lt
 clear h hid hcond hbd hnx hD hm ha0 ge0
 obtain ⟨i0,hi,hz0,hz1,hz2⟩:=info_parts info_str
 go_enter Tryz.func122,Tryz.ntmps122
 go_wp2_with fail
 refine wp_region_quiet_all (Ext _) (by kernel_rfl) (by kernel_rfl) (Ext.drawn _) ?_
 repeat (first | go_big_quiet_skip | go_big_quiet_step (fail) | (refine BigFrame.wpQuiet_want rfl (fun K hK=>?_);apply Exists.intro;refine ⟨fun w2 h2=>?_,?_⟩;(next=>(have g1:=Below.cells h2.below;have g2:=Below.frozens h2.below;(try simp only [World.size_alloc,World.size_setCell] at g1 g2);first | (go_simp;fail) | (simp [go_sem,↓IntWalk.iteOmega, *];done) | (simp [go_sem,↓IntWalk.iteOmega, *];rfl))));(go_simp;refine hK _ ?_;clear hK K))
 refine wpQuiet_nil ?_
 intro w1 h1
 have hb1:=h1.below
 clear h1
 have z1:=hb1.size
 have c1:=Below.cells hb1
 have f1:=Below.frozens hb1
 try simp only [World.size_alloc,World.size_setCell,World.size_drew] at z1 c1 f1
 go_wp2_with fail
 have ND1:=Lib.hid (HN.out.below hb1 hlt)
 have G1:=Lib.hid (grown_below (row:=some b) hb1)
 clear hb1 c1 f1 k0 k1 k2 k3 k4 k5 k6 k7 k8 k9 hfz v2 v3 v4 v5 v6 v7 v8
 go_loopw [7,8] (fun v a wr=>∃ (k:Nat) (at_:Int) (A7:Option Addr) (c7:Nat),k≤m∧at_=(D+1+k) * every∧a=.int .i64 at_∧v=.slice A7 k c7∧wr.ownsRow w.heap.size 9 1 (.slice A7 k c7) k (sent id inc seq k)∧NodeAt wr b id inc every cap least now ((seq+k:Nat):Int) drops P S∧w.grownBy wr (some b)) (fun v _ _=>m - (match v with | .slice _ n _=>n | _=>0))
 case atStart=>exact ⟨0,a0,none,0,Nat.zero_le _,by rw [← HA0.out];simp,rfl,rfl,World.ownsRow_nil _ _ _ _,ND1.out,G1.out⟩
 case round=>
  obtain ⟨k,at_,A7,c7,hk,hat,rfl,rfl,hown,hnd,hgr⟩:=hrel
  have hsz:=hgr.size
  by_cases hlk:k<m
  ·have hc:at_≤now+g:=by rw [hat];exact (HCo.out k).2 hlk
   have hb0:=HBd.out k hk
   have hb1:=HBd.out (k+1) (by omega)
   have hnx:=HNx.out k
   rw [← hat] at hb0 hnx
   rw [← hnx] at hb1
   have HAt:=Lib.hid hnx
   obtain ⟨sq,hsq⟩:∃ s,seq+k=s:=⟨_,rfl⟩
   obtain ⟨s1,hs1⟩:∃ s,sq+1=s:=⟨_,rfl⟩
   rw [hsq] at hnd
   have q1:IntKind.i64.wrap ((sq:Int)+1)=(s1:Int):=by rw [IntWalk.i64_in _ (by omega)];omega
   have q2:IntKind.i64.wrap (at_+every)=at_+every:=IntWalk.i64_in _ (by omega)
   obtain ⟨tx,htx⟩:∃ t,mkB (encL (byts id) inc s1)=t:=⟨_,rfl⟩
   have HEk:=Lib.hid (fun w'=>HE.out k hlk w')
   rw [show seq+k+1=s1 by omega,htx] at HEk
   have HSn:=Lib.hid (sent_snoc id inc seq k)
   rw [show seq+k+1=s1 by omega,htx] at HSn
   obtain ⟨r0,r1,r2,r3,r4,r5,r6,r7,r8,r9⟩:=hnd.cells
   have rf:=hnd.frozen
   have N2:=Lib.hid (hnd.setSeq (s1:Int))
   have G2:=Lib.hid (grown_trans hgr (grown_set wr b 6 (.int .i64 (s1:Int))))
   have O2:=Lib.hid (own_set hown (b:=b) hlt 6 (.int .i64 (s1:Int)))
   have bsz:=hnd.lt
   have hs12:(s1:Int)=((seq+(k+1):Nat):Int):=by omega
   have HS12:=Lib.hid hs12
   clear hat hnx htx hs1 hsq hown hnd hgr hs12
   go_wp2_with fail
   obtain ⟨w2,hw2⟩:∃ z,wr.setCell ⟨b,6,none⟩ (.int .i64 (s1:Int))=z:=⟨_,rfl⟩
   rw [hw2] at N2 G2 O2 ⊢
   have zz2:wr.heap.size=w2.heap.size:=by rw [← hw2];simp
   clear hw2 r0 r1 r2 r3 r4 r5 r6 r7 r8 r9 rf
   have bsz2:b<w2.heap.size:=by omega
   have wsz2:w.heap.size≤w2.heap.size:=by omega
   clear zz2 hsz
   obtain ⟨r0,r1,r2,r3,r4,r5,r6,r7,r8,r9⟩:=N2.out.cells
   have rf:=N2.out.frozen
   refine wp_region_quiet_all (Ext _) (by kernel_rfl) (by kernel_rfl) (Ext.drawn _) ?_
   repeat (first | go_big_quiet_skip | go_big_quiet_step (fail) | (refine BigFrame.wpQuiet_want rfl (fun K hK=>?_);apply Exists.intro;refine ⟨fun w2 h2=>?_,?_⟩;(next=>(have g1:=Below.cells h2.below;have g2:=Below.frozens h2.below;(try simp only [World.size_alloc,World.size_setCell] at g1 g2);first | (go_simp;(go_at_call 149;refine h2.calls (HEk.out _))) | (simp [go_sem,↓IntWalk.iteOmega, *];done) | (simp [go_sem,↓IntWalk.iteOmega, *];rfl))));(go_simp;refine hK _ ?_;clear hK K))
   refine wpQuiet_nil ?_
   intro w3 h3
   have hb3:=h3.below
   clear h3
   have N3:=Lib.hid (N2.out.below hb3 bsz2)
   have G3:=Lib.hid (grown_trans G2.out (grown_below hb3))
   have own3:=own_below O2.out hb3
   have O3:=Lib.hid own3
   have zw3:=hb3.size
   clear hb3 r0 r1 r2 r3 r4 r5 r6 r7 r8 r9 rf
   go_wp2_with (at_builtin;go_loud (refine wpList_append_own _ rfl _ _ 26 rfl (w.heap.size) 9 i0 (.string ⟨#[]⟩) 1 16 Tryz.underlying26 hi hz0 hz1 hz2 rfl (by decide) _ _ _ rfl (World.ownsRow.alloc own3 _) ⟨w3.heap.size,0,none⟩ 1 1 [.string tx] rfl rfl (app1_cells _ _ _) (one_str _) (by unfold maxLen;omega) (by omega) (by simp;omega) ?_))
   intro vq wq ownq grq _
   have bq:wq.heap[b]? = w3.heap[b]?:=(grq.block b (by simp;omega) (fun e=>by have:=(O3.out.lt _ e.symm).1;omega)).trans (Below.heap_alloc _ _ _ (by omega))
   have NQ:=Lib.hid (N3.out.same bq)
   have GQ:=Lib.hid (show w.grownBy wq (some b) from by
    have A:=grown_trans G3.out (grown_below ((Below.refl _ _).alloc (Nat.le_refl _) (.cells #[.string tx] 9)))
    exact ⟨grq.os.trans A.os,grq.tape.trans A.tape,grq.output.trans A.output,Nat.le_trans A.size grq.size,fun i hi' hr=>(grq.block i (Nat.lt_of_lt_of_le hi' A.size) (fun e=>by have:=(O3.out.lt _ e.symm).1;omega)).trans (A.block i hi' hr)⟩)
   obtain ⟨Aq,cq,rfl,_,_,_⟩:=own_form ownq
   have OQ:=Lib.hid (show wq.ownsRow w.heap.size 9 1 (.slice Aq (k+1) cq) (k+1) (sent id inc seq (k+1)) by rw [HSn.out];exact ownq)
   clear ownq grq bq own3
   obtain ⟨r0,r1,r2,r3,r4,r5,r6,r7,r8,r9⟩:=NQ.out.cells
   have rf:=NQ.out.frozen
   go_wp2_with fail
   go_roundw
   case rel=>exact ⟨k+1,at_+every,Aq,cq,by omega,HAt.out,rfl,rfl,OQ.out,by have h:=NQ.out;rwa [HS12.out] at h,GQ.out⟩
   case measure=>simp;omega
  ·obtain rfl:m=k:=by omega
   have hc:¬ at_≤now+g:=by rw [hat];exact fun h=>hlk ((HCo.out m).1 h)
   obtain ⟨sq,hsq⟩:∃ s,seq+m=s:=⟨_,rfl⟩
   rw [hsq] at hnd
   obtain ⟨r0,r1,r2,r3,r4,r5,r6,r7,r8,r9⟩:=hnd.cells
   have rf:=hnd.frozen
   have N2:=Lib.hid (hnd.setNow (now+g))
   have G2:=Lib.hid (grown_trans hgr (grown_set wr b 5 (.int .i64 (now+g))))
   have O2:=Lib.hid (own_set hown (b:=b) hlt 5 (.int .i64 (now+g)))
   have HSq:=Lib.hid hsq
   clear hat hsq hown hnd hgr
   have hfb:=HRest.out.1
   have hbf:=HRest.out.2.2.2.2 b hfb
   have hd:∀ x,S.ownBlock=some x→x<w.heap.size∧x≠b:=fun x hx=>⟨HRest.out.2.2.2.2 x (HRest.out.2.2.2.1 x hx).1,(HRest.out.2.2.2.1 x hx).2⟩
   have R2:=Lib.hid (show NRep (wr.setCell ⟨b,5,none⟩ (.int .i64 (now+g))) b { s with now:=now+g,seq:=((seq+m:Nat):Int) } f by
    refine ⟨PA,pn,pc,S,?_,hfb,HRest.out.2.1.same ⟨G2.out.size,fun x hx hfx=>G2.out.block x hx (fun e=>hfx.2.1 (by injection e))⟩,?_,HRest.out.2.2.2.1,fun x hfx=>Nat.lt_of_lt_of_le (HRest.out.2.2.2.2 x hfx) G2.out.size⟩
    ·have h:=N2.out
     rw [← HSq.out,← HP.out] at h
     obtain ⟨a1,a2,a3,a4,a5,a6⟩:=HEq.out
     show NodeAt _ b s.id s.inc s.every s.cap s.least (now+g) ((seq+m:Nat):Int) s.drops _ S
     rw [a1,a2,a3,a4,a5,a6];exact h
    ·exact HRest.out.2.2.1.kept G2.out (Classical.or_iff_not_imp_left.2 (fun _ e=>(hd b e).2 rfl)))
   have K2:=Lib.hid (show Kept f w (wr.setCell ⟨b,5,none⟩ (.int .i64 (now+g))) from ⟨G2.out.os,G2.out.tape,G2.out.output,G2.out.size,fun x hx hfx=>G2.out.block x hx (fun e=>hfx (by injection e with e;rw [e];exact hfb))⟩)
   clear hd
   go_wp2_with fail
   refine (HTold.out _ R2.out).mono ?_
   rintro e w' ⟨A9,c9,rfl,own9,rep9,k9'⟩
   have O9:=Lib.hid (own_mono (B':=w.heap.size) own9 K2.out.size)
   have R9:=Lib.hid rep9
   have K9:=Lib.hid (K2.out.trans k9' (fun x _ hx=>hx))
   have O7:=Lib.hid (own_same O2.out (fun x hx=>show w.heap.size≤x from (O2.out.lt x hx).1) (k9'.same (fun x hx hfx=>by have:=HRest.out.2.2.2.2 x hfx;omega)))
   clear own9 rep9 k9'
   go_wp2_with fail
   refine bodyPost_ret (v:=.tuple #[.slice A7 m c7,.slice A9 (toldN { s with now:=now+g,seq:=((seq+m:Nat):Int) }).length c9,.int .i64 0]) (by simp [results,Tryz.f122,go_sem,↓IntWalk.iteOmega, *]) rfl ?_
   exact ⟨{ s with now:=now+g,seq:=((seq+m:Nat):Int) },.slice A7 m c7,A9,c9,by rw [HEq.out.2.1],rfl,O7.out,O9.out,R9.out,K9.out⟩
end Go.Proofs.YtnaebigoknfndaaGreatDoor
namespace Go.Proofs.YtnaebigoknfndaaGreatDoor
open Go Go.RowKit
def ext (f:Nat→Prop) (a z:Nat):Nat→Prop:=fun x=>f x∨(a≤x∧x<z)
theorem own_elsewhere {w:World} {B e s n b:Nat} {v:Value} {xs:List Value} (h:w.ownsRow B e s v n xs) (hb:v.ownBlock≠some b) (o:Nat) (u:Value):(w.setCell ⟨b,o,none⟩ u).ownsRow B e s v n xs:=
 h.kept (grown_set w b o u) (.inr hb)
theorem NRep.setPeers {w w1:World} {b n c:Nat} {s:NSt} {f:Nat→Prop} {A:Option Addr} {L:List Peer} (h:NRep w b s f) (hb:Below w.heap.size w w1) (hT:Tab w1 w.heap.size A n c L) :
  NRep (w1.setCell ⟨b,8,none⟩ (.slice A n c)) b { s with peers:=L } (ext f w.heap.size w1.heap.size):=by
 have hz:=hb.size
 obtain ⟨A0,n0,c0,S,h1,h2,h3,h4,h5,h6⟩:=h
 have hbl:=h6 b h2
 refine ⟨A,n,c,S,(h1.below hb hbl).setPeers _,.inl h2,?_,own_elsewhere (own_below h4 hb) (fun e=>(h5 b e).2 rfl) _ _,fun g hg=>⟨.inl (h5 g hg).1,(h5 g hg).2⟩,fun x hx=>?_⟩
 ·refine (hT.row.same ⟨by simp,fun x _ hx=>Below.heap_setCell _ _ _ _ (fun e=>by have h1:x=b:=e;have:=hx.1;omega)⟩).imp fun x hx=>⟨.inr hx,fun e=>by have:=hx.1;omega,fun e=>?_⟩
  have:=h6 x (h5 x e).1
  have:=hx.1
  omega
 ·simp only [World.size_setCell]
  rcases hx with hx | hx
  ·have:=h6 x hx;omega
  ·exact hx.2
theorem NRep.setDrops {w:World} {b:Nat} {s:NSt} {f:Nat→Prop} (h:NRep w b s f) (x:Int):NRep (w.setCell ⟨b,7,none⟩ (.int .i64 x)) b { s with drops:=x } f:=by
 obtain ⟨A0,n0,c0,S,h1,h2,h3,h4,h5,h6⟩:=h
 exact ⟨A0,n0,c0,S,h1.setDrops _,h2,h3.same ⟨by simp,fun y _ hy=>Below.heap_setCell _ _ _ _ (fun e=>hy.2.1 e)⟩,own_elsewhere h4 (fun e=>(h5 b e).2 rfl) _ _,h5,by simpa using h6⟩
theorem NRep.fb {w:World} {b:Nat} {s:NSt} {f:Nat→Prop} (h:NRep w b s f):f b:=by obtain ⟨_,_,_,_,_,h2,_⟩:=h;exact h2
theorem NRep.lt {w:World} {b:Nat} {s:NSt} {f:Nat→Prop} (h:NRep w b s f):∀ x,f x→x<w.heap.size:=by obtain ⟨_,_,_,_,_,_,_,_,_,h6⟩:=h;exact h6
theorem NRep.imp {w:World} {b:Nat} {s:NSt} {f g:Nat→Prop} (h:NRep w b s f) (hi:∀ x,f x→g x) (hg:∀ x,g x→x<w.heap.size):NRep w b s g:=by
 obtain ⟨A0,n0,c0,S,h1,h2,h3,h4,h5,h6⟩:=h
 exact ⟨A0,n0,c0,S,h1,hi _ h2,h3.imp fun x hx=>⟨hi _ hx.1,hx.2⟩,h4,fun x hx=>⟨hi _ (h5 x hx).1,(h5 x hx).2⟩,hg⟩
theorem NRep.node {w:World} {b:Nat} {s:NSt} {f:Nat→Prop} (h:NRep w b s f):∃ A n c S,NodeAt w b s.id s.inc s.every s.cap s.least s.now s.seq s.drops (.slice A n c) S∧PRow w A n s.peers f:=by
 obtain ⟨A0,n0,c0,S,h1,h2,h3,h4,h5,h6⟩:=h
 exact ⟨A0,n0,c0,S,h1,h3.imp fun x hx=>hx.1⟩
theorem Kept.set {f:Nat→Prop} {w w1:World} (h:Kept f w w1) {b:Nat} (hb:f b) (o:Nat) (u:Value):Kept f w (w1.setCell ⟨b,o,none⟩ u):=
 ⟨h.os,h.tape,h.output,by simpa using h.size,fun x hx hfx=>(Below.heap_setCell _ _ _ _ (fun e=>hfx (by rw [e];exact hb))).trans (h.block x hx hfx)⟩
theorem tab_sizes {L:List Peer} (h:TabOK L):∀ k,k<L.length→(L.getD k default).id.size≤9223372036854775807:=fun k hk=>by
 have:=(tab_good h k hk).1.id.2.1
 rw [byts_len] at this
 omega
def more (d:Int):Int:=min (d+1) 1073741824
theorem nhear_none (b:Nat) (s:NSt) (f:Nat→Prop) (id:ByteArray) (i q:Nat) (w:World) (h:NRep w b s f) (ok:NOK s) (hbk:BOK (byts id) i q) (hno:has s.peers id=false) :
  Calls Tryz.prog 123 #[.pointer (some ⟨b,0,none⟩),.string (mkB (encL (byts id) i q))] w fun e w'=>(∃ k:Int,(k != 0)=true∧e=.returned (.tuple #[.slice none 0 0,.int .i64 k]))∧NRep w' b { s with drops:=more s.drops } f∧Kept f w w':=by
 have HD:=Lib.hid (fun w'=>decode_enc id i q w' hbk)
 have HR:=Lib.hid h
 obtain ⟨A,pn,pc,S,hnd,hpr⟩:=h.node
 have hbl:=hnd.lt
 have hfb:=h.fb
 have HFb:=Lib.hid hfb
 obtain ⟨_,_,_,_,_,k5,_,k7,k8,_⟩:=hnd.cells
 have kf:=hnd.frozen
 have dr:=ok.drops
 have pl:=hpr.1
 have HPr:=Lib.hid hpr
 have HOk:=Lib.hid ok
 have HHe:=Lib.hid (fun w' (hr:PRow w' A pn s.peers f)=>hear_not A pn pc s.peers f id i q s.now w' hr (by have:=ok.tab.len;omega) (fun k hk=>tab_sizes ok.tab k (by omega)) (by have:=hbk.1.2.1;rw [byts_len] at this;omega) (fun hh=>by have:=hh.2.2.2.2.2.1;rw [hno] at this;cases this))
 obtain ⟨tx,htx⟩:∃ t,mkB (encL (byts id) i q)=t:=⟨_,rfl⟩
 rw [htx] at HD
 rw [htx]
 obtain ⟨d,hd⟩:∃ d,s.drops=d:=⟨_,rfl⟩
 rw [hd] at k7 dr
 have HDd:=Lib.hid hd
 have w1:IntKind.i64.wrap (d+1)=d+1:=IntWalk.i64_in _ (by omega)
 obtain ⟨d1,hd1⟩:∃ x,min (d+1) 1073741824=x:=⟨_,rfl⟩
 have HM:=Lib.hid (show more s.drops=d1 by unfold more;rw [hd,hd1])
 obtain ⟨nw,hnw⟩:∃ x,s.now=x:=⟨_,rfl⟩
 rw [hnw] at k5 HHe
 have HNw:=Lib.hid hnw
 have qa:=alloc_cells
 have qf:=alloc_frozens
 have HND:=Lib.hid hnd
 clear h ok hnd hfb hbk hpr htx hnw hd hno
 go_enter Tryz.func123,Tryz.ntmps123
 go_wp2_with fail
 refine (HD.out _).mono ?_
 rintro e w1 ⟨rfl,hb1⟩
 have z1:=hb1.size
 have c1:=Below.cells hb1
 have f1:=Below.frozens hb1
 try simp only [World.size_alloc,World.size_setCell,World.size_drew] at z1 c1 f1
 go_wp2_with fail
 have Bx:=Lib.hid (show Below w.heap.size w (w1.alloc (.cells #[.string id,.int .i64 (i:Int),.int .i64 (q:Int)] 183)) from (by repeat (first | (with_reducible exact Below.refl _ _) | (with_reducible refine bAl ?_ _) | (with_reducible refine bSc ?_ _) | (with_reducible refine Below.drew ?_) | (with_reducible refine bTm ?_ hb1))))
 have m8:(w1.alloc (.cells #[.string id,.int .i64 (i:Int),.int .i64 (q:Int)] 183)).cell? ⟨b,8,none⟩=some (.slice A pn pc):=(Bx.out.cell (p:=⟨b,8,none⟩) hbl).trans k8
 have m5:(w1.alloc (.cells #[.string id,.int .i64 (i:Int),.int .i64 (q:Int)] 183)).cell? ⟨b,5,none⟩=some (.int .i64 nw):=(Bx.out.cell (p:=⟨b,5,none⟩) hbl).trans k5
 have b0:(w1.alloc (.cells #[.string id,.int .i64 (i:Int),.int .i64 (q:Int)] 183)).cell? ⟨w1.heap.size,0,none⟩=some (.string id):=World.cell?_alloc_new _ _ _ 0
 have b1:(w1.alloc (.cells #[.string id,.int .i64 (i:Int),.int .i64 (q:Int)] 183)).cell? ⟨w1.heap.size,1,none⟩=some (.int .i64 (i:Int)):=World.cell?_alloc_new _ _ _ 1
 have b2:(w1.alloc (.cells #[.string id,.int .i64 (i:Int),.int .i64 (q:Int)] 183)).cell? ⟨w1.heap.size,2,none⟩=some (.int .i64 (q:Int)):=World.cell?_alloc_new _ _ _ 2
 have szx:w1.heap.size<(w1.alloc (.cells #[.string id,.int .i64 (i:Int),.int .i64 (q:Int)] 183)).heap.size:=by simp
 have szy:w.heap.size≤(w1.alloc (.cells #[.string id,.int .i64 (i:Int),.int .i64 (q:Int)] 183)).heap.size:=Bx.out.size
 have szb:b<(w1.alloc (.cells #[.string id,.int .i64 (i:Int),.int .i64 (q:Int)] 183)).heap.size:=by omega
 generalize (w1.alloc (.cells #[.string id,.int .i64 (i:Int),.int .i64 (q:Int)] 183))=w2 at Bx m8 m5 b0 b1 b2 szx szy szb ⊢
 clear hb1 c1 f1 z1 qa qf k5 k7 k8 kf
 have kk:w2.drew.cell? ⟨b,8,none⟩=some (.slice A pn pc)∧w2.drew.cell? ⟨b,5,none⟩=some (.int .i64 nw)∧w2.drew.cell? ⟨w1.heap.size,0,none⟩=some (.string id)∧w2.drew.cell? ⟨w1.heap.size,1,none⟩=some (.int .i64 (i:Int))∧w2.drew.cell? ⟨w1.heap.size,2,none⟩=some (.int .i64 (q:Int)):=⟨m8,m5,b0,b1,b2⟩
 have M2:=Lib.hid kk
 refine wp_region_M (fun w'=>w'.cell? ⟨b,8,none⟩=some (.slice A pn pc)∧w'.cell? ⟨b,5,none⟩=some (.int .i64 nw)∧w'.cell? ⟨w1.heap.size,0,none⟩=some (.string id)∧w'.cell? ⟨w1.heap.size,1,none⟩=some (.int .i64 (i:Int))∧w'.cell? ⟨w1.heap.size,2,none⟩=some (.int .i64 (q:Int))) (fun j=>decide (10≤j)) 17 rfl (by kernel_rfl) ?_
 (refine wpAnyM_tk (i:=0) (v:=?_) rfl (Or.inl ⟨by rfl,?_⟩) kk ?_;(rotate_left;(intro w hSw;(try dsimp only at hSw);go_simp;try with_reducible rfl));(try simp only [Act.put,List.setIfInBounds_toArray,List.set_cons_zero,List.set_cons_succ]))
 (refine wpAnyM_tk (i:=1) (v:=?_) rfl (Or.inl ⟨by rfl,?_⟩) kk ?_;(rotate_left;(intro w hSw;(try dsimp only at hSw);go_simp;try with_reducible rfl));(try simp only [Act.put,List.setIfInBounds_toArray,List.set_cons_zero,List.set_cons_succ]))
 (refine wpAnyM_tk (i:=2) (v:=?_) rfl (Or.inl ⟨by rfl,?_⟩) kk ?_;(rotate_left;(intro w hSw;(try dsimp only at hSw);go_simp;try with_reducible rfl));(try simp only [Act.put,List.setIfInBounds_toArray,List.set_cons_zero,List.set_cons_succ]))
 (refine wpAnyM_tk (i:=3) (v:=?_) rfl (Or.inl ⟨by rfl,?_⟩) kk ?_;(rotate_left;(intro w hSw;(try dsimp only at hSw);go_simp;try with_reducible rfl));(try simp only [Act.put,List.setIfInBounds_toArray,List.set_cons_zero,List.set_cons_succ]))
 (refine wpAnyM_tk (i:=4) (v:=?_) rfl (Or.inl ⟨by rfl,?_⟩) kk ?_;(rotate_left;(intro w hSw;(try dsimp only at hSw);go_simp;try with_reducible rfl));(try simp only [Act.put,List.setIfInBounds_toArray,List.set_cons_zero,List.set_cons_succ]))
 (refine wpAnyM_tk (i:=5) (v:=?_) rfl (Or.inl ⟨by rfl,?_⟩) kk ?_;(rotate_left;(intro w hSw;(try dsimp only at hSw);go_simp;try with_reducible rfl));(try simp only [Act.put,List.setIfInBounds_toArray,List.set_cons_zero,List.set_cons_succ]))
 (refine wpAnyM_tk (i:=6) (v:=?_) rfl (Or.inl ⟨by rfl,?_⟩) kk ?_;(rotate_left;(intro w hSw;(try dsimp only at hSw);go_simp;try with_reducible rfl));(try simp only [Act.put,List.setIfInBounds_toArray,List.set_cons_zero,List.set_cons_succ]))
 (refine wpAnyM_tk (i:=7) (v:=?_) rfl (Or.inl ⟨by rfl,?_⟩) kk ?_;(rotate_left;(intro w hSw;(try dsimp only at hSw);go_simp;try with_reducible rfl));(try simp only [Act.put,List.setIfInBounds_toArray,List.set_cons_zero,List.set_cons_succ]))
 (refine wpAnyM_tk (i:=8) (v:=?_) rfl (Or.inl ⟨by rfl,?_⟩) kk ?_;(rotate_left;(intro w hSw;(try dsimp only at hSw);go_simp;try with_reducible rfl));(try simp only [Act.put,List.setIfInBounds_toArray,List.set_cons_zero,List.set_cons_succ]))
 refine wpAnyM_one (i:=9) (by kernel_rfl) rfl (fun K hK=>?_)
 go_simp
 refine (HHe.out _ ((HPr.out.below Bx.out).below (Below.drew (Below.refl _ w2)))).mono ?_
 rintro e w3 ⟨⟨k,hk,rfl⟩,hb3⟩
 have hb3':Below w2.heap.size w2 w3:=(Below.drew (Below.refl _ w2)).trans hb3
 have cc:∀ p:Addr,p.block<w2.heap.size→w3.cell? p=w2.cell? p:=fun p hp=>hb3'.cell hp
 go_simp
 refine hK _ _ (fun _=>⟨(cc _ szb).trans m8,(cc _ szb).trans m5,(cc _ szx).trans b0,(cc _ szx).trans b1,(cc _ szx).trans b2⟩) ?_
 clear hK K
 refine wpAnyM_rest (by kernel_rfl) ?_
 (refine wpAny_take (i:=10) (v:=?_) rfl (by kernel_rfl) (by kernel_rfl) (by kernel_rfl) (fun _ _ _ h=>h) (Or.inl ⟨by rfl,?_⟩) ?_;(rotate_left;(intro w;go_simp;try with_reducible rfl)))
 (refine wpAny_take (i:=11) (v:=?_) rfl (by kernel_rfl) (by kernel_rfl) (by kernel_rfl) (fun _ _ _ h=>h) (Or.inl ⟨by rfl,?_⟩) ?_;(rotate_left;(intro w;go_simp;try with_reducible rfl)))
 (refine wpAny_take (i:=12) (v:=?_) rfl (by kernel_rfl) (by kernel_rfl) (by kernel_rfl) (fun _ _ _ h=>h) (Or.inl ⟨by rfl,?_⟩) ?_;(rotate_left;(intro w;go_simp;try with_reducible rfl)))
 (refine wpAny_take (i:=13) (v:=?_) rfl (by kernel_rfl) (by kernel_rfl) (by kernel_rfl) (fun _ _ _ h=>h) (Or.inl ⟨by rfl,?_⟩) ?_;(rotate_left;(intro w;go_simp;try with_reducible rfl)))
 (refine wpAny_take (i:=14) (v:=?_) rfl (by kernel_rfl) (by kernel_rfl) (by kernel_rfl) (fun _ _ _ h=>h) (Or.inl ⟨by rfl,?_⟩) ?_;(rotate_left;(intro w;go_simp;try with_reducible rfl)))
 (refine wpAny_take (i:=15) (v:=?_) rfl (by kernel_rfl) (by kernel_rfl) (by kernel_rfl) (fun _ _ _ h=>h) (Or.inl ⟨by rfl,?_⟩) ?_;(rotate_left;(intro w;go_simp;try with_reducible rfl)))
 (refine wpAny_take (i:=16) (v:=?_) rfl (by kernel_rfl) (by kernel_rfl) (by kernel_rfl) (fun _ _ _ h=>h) (Or.inl ⟨by rfl,?_⟩) ?_;(rotate_left;(intro w;go_simp;try with_reducible rfl)))
 refine wpAny_done (by kernel_rfl) ?_ _
 have B3:=Lib.hid (Bx.out.trans (hb3'.mono szy))
 have R3:=HR.out.below B3.out
 obtain ⟨_,_,_,_,hnd3,_⟩:=R3.node
 have k7:w3.cell? ⟨b,7,none⟩=some (.int .i64 d):=by
  obtain ⟨_,_,_,_,_,_,_,k7,_,_⟩:=HND.out.cells
  have:=(B3.out.cell (p:=⟨b,7,none⟩) hbl).trans k7
  rw [this,HDd.out]
 have kf:=hnd3.frozen
 have R4:=Lib.hid (R3.setDrops d1)
 have K4:=Lib.hid ((Kept.of_below (f:=f) B3.out).set HFb.out 7 (.int .i64 d1))
 clear hb3 hb3' cc kk m8 m5 b0 b1 b2 R3 hnd3
 go_simp
 go_wp2_with fail
 go_ret2
 exact ⟨⟨k,hk,rfl⟩,by rw [HM.out];exact R4.out,K4.out⟩
theorem NOK.hear {s:NSt} {id:ByteArray} {i q:Int} (ok:NOK s) (h:HearOK s.peers id i q s.now):NOK { s with peers:=hearS s.peers id i q s.now }:=by
 refine ⟨ok.id,ok.inc,ok.every,ok.cap,ok.least,ok.now,ok.seq,ok.drops,h.tab,fun p hp=>?_,ok.subs⟩
 have hp':p∈hearS s.peers id i q s.now:=hp
 unfold hearS at hp'
 rcases List.mem_or_eq_of_mem_set hp' with hp' | rfl
 ·exact ok.wins p hp'
 ·have hw:=ok.at (has_lt h.2.2.2.2.2.1)
  refine ⟨?_,heardP_last hw.2.2⟩
  unfold heardP
  split
  ·simp
  ·exact hw.2.1
theorem NOK.hears {s:NSt} {id:ByteArray} {i q:Nat} (ok:NOK s) (hbk:BOK (byts id) i q) (hy:has s.peers id=true):HearOK s.peers id i q s.now:=
 ⟨ok.tab,hbk.1,⟨by omega,by have:=hbk.2.1;omega⟩,⟨by have:=hbk.2.2.1;omega,by have:=hbk.2.2.2;omega⟩,ok.now,hy,(ok.at (has_lt hy)).2.2⟩
theorem nhear_old (b:Nat) (s:NSt) (f:Nat→Prop) (id:ByteArray) (i q:Nat) (w:World) (h:NRep w b s f) (ok:NOK s) (hbk:BOK (byts id) i q) (hy:has s.peers id=true) (hnw2:newer (s.peers.getD (pos s.peers id) default) i q=false) :
  Calls Tryz.prog 123 #[.pointer (some ⟨b,0,none⟩),.string (mkB (encL (byts id) i q))] w fun e w'=>e=.returned (.tuple #[.slice none 0 0,.int .i64 5])∧(∃ m,NRep w' b { s with peers:=hearS s.peers id i q s.now,drops:=more s.drops } (ext f w.heap.size m))∧Kept f w w':=by
 have HD:=Lib.hid (fun w'=>decode_enc id i q w' hbk)
 have HR:=Lib.hid h
 obtain ⟨A,pn,pc,S,hnd,hpr⟩:=h.node
 have hbl:=hnd.lt
 have hfb:=h.fb
 have HFb:=Lib.hid hfb
 obtain ⟨_,_,_,_,_,k5,_,k7,k8,_⟩:=hnd.cells
 have kf:=hnd.frozen
 have dr:=ok.drops
 have pl:=hpr.1
 have HPr:=Lib.hid hpr
 have HOk:=Lib.hid ok
 have HHe:=Lib.hid (fun w' (hr:PRow w' A pn s.peers f)=>hear_yes A pn pc s.peers f id i q s.now w' hr (ok.hears hbk hy))
 rw [hnw2] at HHe
 have HNk:=Lib.hid (ok.hear (ok.hears hbk hy))
 obtain ⟨tx,htx⟩:∃ t,mkB (encL (byts id) i q)=t:=⟨_,rfl⟩
 rw [htx] at HD
 rw [htx]
 obtain ⟨d,hd⟩:∃ d,s.drops=d:=⟨_,rfl⟩
 rw [hd] at k7 dr
 have HDd:=Lib.hid hd
 have w1:IntKind.i64.wrap (d+1)=d+1:=IntWalk.i64_in _ (by omega)
 obtain ⟨d1,hd1⟩:∃ x,min (d+1) 1073741824=x:=⟨_,rfl⟩
 have HM:=Lib.hid (show more s.drops=d1 by unfold more;rw [hd,hd1])
 obtain ⟨nw,hnw⟩:∃ x,s.now=x:=⟨_,rfl⟩
 rw [hnw] at k5 HHe
 have HNw:=Lib.hid hnw
 have qa:=alloc_cells
 have qf:=alloc_frozens
 have HND:=Lib.hid hnd
 obtain ⟨X,hX⟩:∃ X,hearS s.peers id i q nw=X:=⟨_,rfl⟩
 rw [hX] at HHe
 have HX:=Lib.hid (show hearS s.peers id i q s.now=X by rw [hnw,hX])
 rw [HX.out] at HNk
 clear h ok hnd hfb hbk hpr htx hnw hd hy hnw2 hX
 go_enter Tryz.func123,Tryz.ntmps123
 go_wp2_with fail
 refine (HD.out _).mono ?_
 rintro e w1 ⟨rfl,hb1⟩
 have z1:=hb1.size
 have c1:=Below.cells hb1
 have f1:=Below.frozens hb1
 try simp only [World.size_alloc,World.size_setCell,World.size_drew] at z1 c1 f1
 go_wp2_with fail
 have Bx:=Lib.hid (show Below w.heap.size w (w1.alloc (.cells #[.string id,.int .i64 (i:Int),.int .i64 (q:Int)] 183)) from (by repeat (first | (with_reducible exact Below.refl _ _) | (with_reducible refine bAl ?_ _) | (with_reducible refine bSc ?_ _) | (with_reducible refine Below.drew ?_) | (with_reducible refine bTm ?_ hb1))))
 have m8:(w1.alloc (.cells #[.string id,.int .i64 (i:Int),.int .i64 (q:Int)] 183)).cell? ⟨b,8,none⟩=some (.slice A pn pc):=(Bx.out.cell (p:=⟨b,8,none⟩) hbl).trans k8
 have m5:(w1.alloc (.cells #[.string id,.int .i64 (i:Int),.int .i64 (q:Int)] 183)).cell? ⟨b,5,none⟩=some (.int .i64 nw):=(Bx.out.cell (p:=⟨b,5,none⟩) hbl).trans k5
 have b0:(w1.alloc (.cells #[.string id,.int .i64 (i:Int),.int .i64 (q:Int)] 183)).cell? ⟨w1.heap.size,0,none⟩=some (.string id):=World.cell?_alloc_new _ _ _ 0
 have b1:(w1.alloc (.cells #[.string id,.int .i64 (i:Int),.int .i64 (q:Int)] 183)).cell? ⟨w1.heap.size,1,none⟩=some (.int .i64 (i:Int)):=World.cell?_alloc_new _ _ _ 1
 have b2:(w1.alloc (.cells #[.string id,.int .i64 (i:Int),.int .i64 (q:Int)] 183)).cell? ⟨w1.heap.size,2,none⟩=some (.int .i64 (q:Int)):=World.cell?_alloc_new _ _ _ 2
 have szx:w1.heap.size<(w1.alloc (.cells #[.string id,.int .i64 (i:Int),.int .i64 (q:Int)] 183)).heap.size:=by simp
 have szy:w.heap.size≤(w1.alloc (.cells #[.string id,.int .i64 (i:Int),.int .i64 (q:Int)] 183)).heap.size:=Bx.out.size
 have szb:b<(w1.alloc (.cells #[.string id,.int .i64 (i:Int),.int .i64 (q:Int)] 183)).heap.size:=by omega
 generalize (w1.alloc (.cells #[.string id,.int .i64 (i:Int),.int .i64 (q:Int)] 183))=w2 at Bx m8 m5 b0 b1 b2 szx szy szb ⊢
 clear hb1 c1 f1 z1 qa qf k5 k7 k8 kf
 have kk:w2.drew.cell? ⟨b,8,none⟩=some (.slice A pn pc)∧w2.drew.cell? ⟨b,5,none⟩=some (.int .i64 nw)∧w2.drew.cell? ⟨w1.heap.size,0,none⟩=some (.string id)∧w2.drew.cell? ⟨w1.heap.size,1,none⟩=some (.int .i64 (i:Int))∧w2.drew.cell? ⟨w1.heap.size,2,none⟩=some (.int .i64 (q:Int)):=⟨m8,m5,b0,b1,b2⟩
 have M2:=Lib.hid kk
 refine wp_region_M (fun w'=>w'.cell? ⟨b,8,none⟩=some (.slice A pn pc)∧w'.cell? ⟨b,5,none⟩=some (.int .i64 nw)∧w'.cell? ⟨w1.heap.size,0,none⟩=some (.string id)∧w'.cell? ⟨w1.heap.size,1,none⟩=some (.int .i64 (i:Int))∧w'.cell? ⟨w1.heap.size,2,none⟩=some (.int .i64 (q:Int))) (fun j=>decide (10≤j)) 17 rfl (by kernel_rfl) ?_
 (refine wpAnyM_tk (i:=0) (v:=?_) rfl (Or.inl ⟨by rfl,?_⟩) kk ?_;(rotate_left;(intro w hSw;(try dsimp only at hSw);go_simp;try with_reducible rfl));(try simp only [Act.put,List.setIfInBounds_toArray,List.set_cons_zero,List.set_cons_succ]))
 (refine wpAnyM_tk (i:=1) (v:=?_) rfl (Or.inl ⟨by rfl,?_⟩) kk ?_;(rotate_left;(intro w hSw;(try dsimp only at hSw);go_simp;try with_reducible rfl));(try simp only [Act.put,List.setIfInBounds_toArray,List.set_cons_zero,List.set_cons_succ]))
 (refine wpAnyM_tk (i:=2) (v:=?_) rfl (Or.inl ⟨by rfl,?_⟩) kk ?_;(rotate_left;(intro w hSw;(try dsimp only at hSw);go_simp;try with_reducible rfl));(try simp only [Act.put,List.setIfInBounds_toArray,List.set_cons_zero,List.set_cons_succ]))
 (refine wpAnyM_tk (i:=3) (v:=?_) rfl (Or.inl ⟨by rfl,?_⟩) kk ?_;(rotate_left;(intro w hSw;(try dsimp only at hSw);go_simp;try with_reducible rfl));(try simp only [Act.put,List.setIfInBounds_toArray,List.set_cons_zero,List.set_cons_succ]))
 (refine wpAnyM_tk (i:=4) (v:=?_) rfl (Or.inl ⟨by rfl,?_⟩) kk ?_;(rotate_left;(intro w hSw;(try dsimp only at hSw);go_simp;try with_reducible rfl));(try simp only [Act.put,List.setIfInBounds_toArray,List.set_cons_zero,List.set_cons_succ]))
 (refine wpAnyM_tk (i:=5) (v:=?_) rfl (Or.inl ⟨by rfl,?_⟩) kk ?_;(rotate_left;(intro w hSw;(try dsimp only at hSw);go_simp;try with_reducible rfl));(try simp only [Act.put,List.setIfInBounds_toArray,List.set_cons_zero,List.set_cons_succ]))
 (refine wpAnyM_tk (i:=6) (v:=?_) rfl (Or.inl ⟨by rfl,?_⟩) kk ?_;(rotate_left;(intro w hSw;(try dsimp only at hSw);go_simp;try with_reducible rfl));(try simp only [Act.put,List.setIfInBounds_toArray,List.set_cons_zero,List.set_cons_succ]))
 (refine wpAnyM_tk (i:=7) (v:=?_) rfl (Or.inl ⟨by rfl,?_⟩) kk ?_;(rotate_left;(intro w hSw;(try dsimp only at hSw);go_simp;try with_reducible rfl));(try simp only [Act.put,List.setIfInBounds_toArray,List.set_cons_zero,List.set_cons_succ]))
 (refine wpAnyM_tk (i:=8) (v:=?_) rfl (Or.inl ⟨by rfl,?_⟩) kk ?_;(rotate_left;(intro w hSw;(try dsimp only at hSw);go_simp;try with_reducible rfl));(try simp only [Act.put,List.setIfInBounds_toArray,List.set_cons_zero,List.set_cons_succ]))
 refine wpAnyM_one (i:=9) (by kernel_rfl) rfl (fun K hK=>?_)
 go_simp
 refine (HHe.out _ ((HPr.out.below Bx.out).below (Below.drew (Below.refl _ w2)))).mono ?_
 rintro e w3 ⟨A3,c3,rfl,T3,hb3⟩
 have hb3':Below w2.heap.size w2 w3:=(Below.drew (Below.refl _ w2)).trans hb3
 have cc:∀ p:Addr,p.block<w2.heap.size→w3.cell? p=w2.cell? p:=fun p hp=>hb3'.cell hp
 have HT3:=Lib.hid (T3.mono (show w.heap.size≤w2.heap.size from szy))
 go_simp
 refine hK _ _ (fun _=>⟨(cc _ szb).trans m8,(cc _ szb).trans m5,(cc _ szx).trans b0,(cc _ szx).trans b1,(cc _ szx).trans b2⟩) ?_
 clear hK K
 refine wpAnyM_rest (by kernel_rfl) ?_
 (refine wpAny_take (i:=10) (v:=?_) rfl (by kernel_rfl) (by kernel_rfl) (by kernel_rfl) (fun _ _ _ h=>h) (Or.inl ⟨by rfl,?_⟩) ?_;(rotate_left;(intro w;go_simp;try with_reducible rfl)))
 (refine wpAny_take (i:=11) (v:=?_) rfl (by kernel_rfl) (by kernel_rfl) (by kernel_rfl) (fun _ _ _ h=>h) (Or.inl ⟨by rfl,?_⟩) ?_;(rotate_left;(intro w;go_simp;try with_reducible rfl)))
 (refine wpAny_take (i:=12) (v:=?_) rfl (by kernel_rfl) (by kernel_rfl) (by kernel_rfl) (fun _ _ _ h=>h) (Or.inl ⟨by rfl,?_⟩) ?_;(rotate_left;(intro w;go_simp;try with_reducible rfl)))
 (refine wpAny_take (i:=13) (v:=?_) rfl (by kernel_rfl) (by kernel_rfl) (by kernel_rfl) (fun _ _ _ h=>h) (Or.inl ⟨by rfl,?_⟩) ?_;(rotate_left;(intro w;go_simp;try with_reducible rfl)))
 (refine wpAny_take (i:=14) (v:=?_) rfl (by kernel_rfl) (by kernel_rfl) (by kernel_rfl) (fun _ _ _ h=>h) (Or.inl ⟨by rfl,?_⟩) ?_;(rotate_left;(intro w;go_simp;try with_reducible rfl)))
 (refine wpAny_take (i:=15) (v:=?_) rfl (by kernel_rfl) (by kernel_rfl) (by kernel_rfl) (fun _ _ _ h=>h) (Or.inl ⟨by rfl,?_⟩) ?_;(rotate_left;(intro w;go_simp;try with_reducible rfl)))
 (refine wpAny_take (i:=16) (v:=?_) rfl (by kernel_rfl) (by kernel_rfl) (by kernel_rfl) (fun _ _ _ h=>h) (Or.inl ⟨by rfl,?_⟩) ?_;(rotate_left;(intro w;go_simp;try with_reducible rfl)))
 refine wpAny_done (by kernel_rfl) ?_ _
 have B3:=Lib.hid (Bx.out.trans (hb3'.mono szy))
 have R3:=HR.out.below B3.out
 obtain ⟨_,_,_,_,hnd3,_⟩:=R3.node
 have k7:w3.cell? ⟨b,7,none⟩=some (.int .i64 d):=by
  obtain ⟨_,_,_,_,_,_,_,k7,_,_⟩:=HND.out.cells
  have:=(B3.out.cell (p:=⟨b,7,none⟩) hbl).trans k7
  rw [this,HDd.out]
 have k8:w3.cell? ⟨b,8,none⟩=some (.slice A pn pc):=(cc ⟨b,8,none⟩ szb).trans m8
 have kf:=hnd3.frozen
 have z3:w.heap.size≤w3.heap.size:=B3.out.size
 have R4:=Lib.hid (HR.out.setPeers B3.out HT3.out)
 have K4:=Lib.hid ((Kept.of_below (f:=f) B3.out).set HFb.out 8 (.slice A3 pn c3))
 clear hb3 hb3' cc kk m8 m5 b0 b1 b2 R3 hnd3 T3
 go_simp
 have R5:=Lib.hid (R4.out.setDrops d1)
 have K5:=Lib.hid (K4.out.set HFb.out 7 (.int .i64 d1))
 go_wp2_with fail
 go_ret2
 exact ⟨rfl,⟨_,by rw [HM.out,HX.out];exact R5.out⟩,K5.out⟩
theorem nhear_new (b:Nat) (s:NSt) (f:Nat→Prop) (id:ByteArray) (i q:Nat) (w:World) (h:NRep w b s f) (ok:NOK s) (hbk:BOK (byts id) i q) (hy:has s.peers id=true) (hnw2:newer (s.peers.getD (pos s.peers id) default) i q=true) :
  Calls Tryz.prog 123 #[.pointer (some ⟨b,0,none⟩),.string (mkB (encL (byts id) i q))] w fun e w'=>∃ t A' c' m,t = { s with peers:=hearS s.peers id i q s.now }∧e=.returned (.tuple #[.slice A' (toldN t).length c',.int .i64 0])∧w'.ownsRow m 155 3 (.slice A' (toldN t).length c') (toldN t).length (notesC (toldN t))∧NRep w' b { t with subs:=toldS t } (ext f w.heap.size m)∧w.heap.size≤m∧m≤w'.heap.size∧Kept f w w':=by
 have HD:=Lib.hid (fun w'=>decode_enc id i q w' hbk)
 have HR:=Lib.hid h
 obtain ⟨A,pn,pc,S,hnd,hpr⟩:=h.node
 have hbl:=hnd.lt
 have hfb:=h.fb
 have HFb:=Lib.hid hfb
 obtain ⟨_,_,_,_,_,k5,_,k7,k8,_⟩:=hnd.cells
 have kf:=hnd.frozen
 have dr:=ok.drops
 have pl:=hpr.1
 have HPr:=Lib.hid hpr
 have HOk:=Lib.hid ok
 have HHe:=Lib.hid (fun w' (hr:PRow w' A pn s.peers f)=>hear_yes A pn pc s.peers f id i q s.now w' hr (ok.hears hbk hy))
 rw [hnw2] at HHe
 have HNk:=Lib.hid (ok.hear (ok.hears hbk hy))
 obtain ⟨tx,htx⟩:∃ t,mkB (encL (byts id) i q)=t:=⟨_,rfl⟩
 rw [htx] at HD
 rw [htx]
 obtain ⟨d,hd⟩:∃ d,s.drops=d:=⟨_,rfl⟩
 rw [hd] at k7 dr
 have HDd:=Lib.hid hd
 have w1:IntKind.i64.wrap (d+1)=d+1:=IntWalk.i64_in _ (by omega)
 obtain ⟨d1,hd1⟩:∃ x,min (d+1) 1073741824=x:=⟨_,rfl⟩
 have HM:=Lib.hid (show more s.drops=d1 by unfold more;rw [hd,hd1])
 obtain ⟨nw,hnw⟩:∃ x,s.now=x:=⟨_,rfl⟩
 rw [hnw] at k5 HHe
 have HNw:=Lib.hid hnw
 have qa:=alloc_cells
 have qf:=alloc_frozens
 have HND:=Lib.hid hnd
 obtain ⟨X,hX⟩:∃ X,hearS s.peers id i q nw=X:=⟨_,rfl⟩
 rw [hX] at HHe
 have HX:=Lib.hid (show hearS s.peers id i q s.now=X by rw [hnw,hX])
 rw [HX.out] at HNk
 clear h ok hnd hfb hbk hpr htx hnw hd hy hnw2 hX
 go_enter Tryz.func123,Tryz.ntmps123
 go_wp2_with fail
 refine (HD.out _).mono ?_
 rintro e w1 ⟨rfl,hb1⟩
 have z1:=hb1.size
 have c1:=Below.cells hb1
 have f1:=Below.frozens hb1
 try simp only [World.size_alloc,World.size_setCell,World.size_drew] at z1 c1 f1
 go_wp2_with fail
 have Bx:=Lib.hid (show Below w.heap.size w (w1.alloc (.cells #[.string id,.int .i64 (i:Int),.int .i64 (q:Int)] 183)) from (by repeat (first | (with_reducible exact Below.refl _ _) | (with_reducible refine bAl ?_ _) | (with_reducible refine bSc ?_ _) | (with_reducible refine Below.drew ?_) | (with_reducible refine bTm ?_ hb1))))
 have m8:(w1.alloc (.cells #[.string id,.int .i64 (i:Int),.int .i64 (q:Int)] 183)).cell? ⟨b,8,none⟩=some (.slice A pn pc):=(Bx.out.cell (p:=⟨b,8,none⟩) hbl).trans k8
 have m5:(w1.alloc (.cells #[.string id,.int .i64 (i:Int),.int .i64 (q:Int)] 183)).cell? ⟨b,5,none⟩=some (.int .i64 nw):=(Bx.out.cell (p:=⟨b,5,none⟩) hbl).trans k5
 have b0:(w1.alloc (.cells #[.string id,.int .i64 (i:Int),.int .i64 (q:Int)] 183)).cell? ⟨w1.heap.size,0,none⟩=some (.string id):=World.cell?_alloc_new _ _ _ 0
 have b1:(w1.alloc (.cells #[.string id,.int .i64 (i:Int),.int .i64 (q:Int)] 183)).cell? ⟨w1.heap.size,1,none⟩=some (.int .i64 (i:Int)):=World.cell?_alloc_new _ _ _ 1
 have b2:(w1.alloc (.cells #[.string id,.int .i64 (i:Int),.int .i64 (q:Int)] 183)).cell? ⟨w1.heap.size,2,none⟩=some (.int .i64 (q:Int)):=World.cell?_alloc_new _ _ _ 2
 have szx:w1.heap.size<(w1.alloc (.cells #[.string id,.int .i64 (i:Int),.int .i64 (q:Int)] 183)).heap.size:=by simp
 have szy:w.heap.size≤(w1.alloc (.cells #[.string id,.int .i64 (i:Int),.int .i64 (q:Int)] 183)).heap.size:=Bx.out.size
 have szb:b<(w1.alloc (.cells #[.string id,.int .i64 (i:Int),.int .i64 (q:Int)] 183)).heap.size:=by omega
 generalize (w1.alloc (.cells #[.string id,.int .i64 (i:Int),.int .i64 (q:Int)] 183))=w2 at Bx m8 m5 b0 b1 b2 szx szy szb ⊢
 clear hb1 c1 f1 z1 qa qf k5 k7 k8 kf
 have kk:w2.drew.cell? ⟨b,8,none⟩=some (.slice A pn pc)∧w2.drew.cell? ⟨b,5,none⟩=some (.int .i64 nw)∧w2.drew.cell? ⟨w1.heap.size,0,none⟩=some (.string id)∧w2.drew.cell? ⟨w1.heap.size,1,none⟩=some (.int .i64 (i:Int))∧w2.drew.cell? ⟨w1.heap.size,2,none⟩=some (.int .i64 (q:Int)):=⟨m8,m5,b0,b1,b2⟩
 have M2:=Lib.hid kk
 refine wp_region_M (fun w'=>w'.cell? ⟨b,8,none⟩=some (.slice A pn pc)∧w'.cell? ⟨b,5,none⟩=some (.int .i64 nw)∧w'.cell? ⟨w1.heap.size,0,none⟩=some (.string id)∧w'.cell? ⟨w1.heap.size,1,none⟩=some (.int .i64 (i:Int))∧w'.cell? ⟨w1.heap.size,2,none⟩=some (.int .i64 (q:Int))) (fun j=>decide (10≤j)) 17 rfl (by kernel_rfl) ?_
 (refine wpAnyM_tk (i:=0) (v:=?_) rfl (Or.inl ⟨by rfl,?_⟩) kk ?_;(rotate_left;(intro w hSw;(try dsimp only at hSw);go_simp;try with_reducible rfl));(try simp only [Act.put,List.setIfInBounds_toArray,List.set_cons_zero,List.set_cons_succ]))
 (refine wpAnyM_tk (i:=1) (v:=?_) rfl (Or.inl ⟨by rfl,?_⟩) kk ?_;(rotate_left;(intro w hSw;(try dsimp only at hSw);go_simp;try with_reducible rfl));(try simp only [Act.put,List.setIfInBounds_toArray,List.set_cons_zero,List.set_cons_succ]))
 (refine wpAnyM_tk (i:=2) (v:=?_) rfl (Or.inl ⟨by rfl,?_⟩) kk ?_;(rotate_left;(intro w hSw;(try dsimp only at hSw);go_simp;try with_reducible rfl));(try simp only [Act.put,List.setIfInBounds_toArray,List.set_cons_zero,List.set_cons_succ]))
 (refine wpAnyM_tk (i:=3) (v:=?_) rfl (Or.inl ⟨by rfl,?_⟩) kk ?_;(rotate_left;(intro w hSw;(try dsimp only at hSw);go_simp;try with_reducible rfl));(try simp only [Act.put,List.setIfInBounds_toArray,List.set_cons_zero,List.set_cons_succ]))
 (refine wpAnyM_tk (i:=4) (v:=?_) rfl (Or.inl ⟨by rfl,?_⟩) kk ?_;(rotate_left;(intro w hSw;(try dsimp only at hSw);go_simp;try with_reducible rfl));(try simp only [Act.put,List.setIfInBounds_toArray,List.set_cons_zero,List.set_cons_succ]))
 (refine wpAnyM_tk (i:=5) (v:=?_) rfl (Or.inl ⟨by rfl,?_⟩) kk ?_;(rotate_left;(intro w hSw;(try dsimp only at hSw);go_simp;try with_reducible rfl));(try simp only [Act.put,List.setIfInBounds_toArray,List.set_cons_zero,List.set_cons_succ]))
 (refine wpAnyM_tk (i:=6) (v:=?_) rfl (Or.inl ⟨by rfl,?_⟩) kk ?_;(rotate_left;(intro w hSw;(try dsimp only at hSw);go_simp;try with_reducible rfl));(try simp only [Act.put,List.setIfInBounds_toArray,List.set_cons_zero,List.set_cons_succ]))
 (refine wpAnyM_tk (i:=7) (v:=?_) rfl (Or.inl ⟨by rfl,?_⟩) kk ?_;(rotate_left;(intro w hSw;(try dsimp only at hSw);go_simp;try with_reducible rfl));(try simp only [Act.put,List.setIfInBounds_toArray,List.set_cons_zero,List.set_cons_succ]))
 (refine wpAnyM_tk (i:=8) (v:=?_) rfl (Or.inl ⟨by rfl,?_⟩) kk ?_;(rotate_left;(intro w hSw;(try dsimp only at hSw);go_simp;try with_reducible rfl));(try simp only [Act.put,List.setIfInBounds_toArray,List.set_cons_zero,List.set_cons_succ]))
 refine wpAnyM_one (i:=9) (by kernel_rfl) rfl (fun K hK=>?_)
 go_simp
 refine (HHe.out _ ((HPr.out.below Bx.out).below (Below.drew (Below.refl _ w2)))).mono ?_
 rintro e w3 ⟨A3,c3,rfl,T3,hb3⟩
 have hb3':Below w2.heap.size w2 w3:=(Below.drew (Below.refl _ w2)).trans hb3
 have cc:∀ p:Addr,p.block<w2.heap.size→w3.cell? p=w2.cell? p:=fun p hp=>hb3'.cell hp
 have HT3:=Lib.hid (T3.mono (show w.heap.size≤w2.heap.size from szy))
 go_simp
 refine hK _ _ (fun _=>⟨(cc _ szb).trans m8,(cc _ szb).trans m5,(cc _ szx).trans b0,(cc _ szx).trans b1,(cc _ szx).trans b2⟩) ?_
 clear hK K
 refine wpAnyM_rest (by kernel_rfl) ?_
 (refine wpAny_take (i:=10) (v:=?_) rfl (by kernel_rfl) (by kernel_rfl) (by kernel_rfl) (fun _ _ _ h=>h) (Or.inl ⟨by rfl,?_⟩) ?_;(rotate_left;(intro w;go_simp;try with_reducible rfl)))
 (refine wpAny_take (i:=11) (v:=?_) rfl (by kernel_rfl) (by kernel_rfl) (by kernel_rfl) (fun _ _ _ h=>h) (Or.inl ⟨by rfl,?_⟩) ?_;(rotate_left;(intro w;go_simp;try with_reducible rfl)))
 (refine wpAny_take (i:=12) (v:=?_) rfl (by kernel_rfl) (by kernel_rfl) (by kernel_rfl) (fun _ _ _ h=>h) (Or.inl ⟨by rfl,?_⟩) ?_;(rotate_left;(intro w;go_simp;try with_reducible rfl)))
 (refine wpAny_take (i:=13) (v:=?_) rfl (by kernel_rfl) (by kernel_rfl) (by kernel_rfl) (fun _ _ _ h=>h) (Or.inl ⟨by rfl,?_⟩) ?_;(rotate_left;(intro w;go_simp;try with_reducible rfl)))
 (refine wpAny_take (i:=14) (v:=?_) rfl (by kernel_rfl) (by kernel_rfl) (by kernel_rfl) (fun _ _ _ h=>h) (Or.inl ⟨by rfl,?_⟩) ?_;(rotate_left;(intro w;go_simp;try with_reducible rfl)))
 (refine wpAny_take (i:=15) (v:=?_) rfl (by kernel_rfl) (by kernel_rfl) (by kernel_rfl) (fun _ _ _ h=>h) (Or.inl ⟨by rfl,?_⟩) ?_;(rotate_left;(intro w;go_simp;try with_reducible rfl)))
 (refine wpAny_take (i:=16) (v:=?_) rfl (by kernel_rfl) (by kernel_rfl) (by kernel_rfl) (fun _ _ _ h=>h) (Or.inl ⟨by rfl,?_⟩) ?_;(rotate_left;(intro w;go_simp;try with_reducible rfl)))
 refine wpAny_done (by kernel_rfl) ?_ _
 have B3:=Lib.hid (Bx.out.trans (hb3'.mono szy))
 have R3:=HR.out.below B3.out
 obtain ⟨_,_,_,_,hnd3,_⟩:=R3.node
 have k7:w3.cell? ⟨b,7,none⟩=some (.int .i64 d):=by
  obtain ⟨_,_,_,_,_,_,_,k7,_,_⟩:=HND.out.cells
  have:=(B3.out.cell (p:=⟨b,7,none⟩) hbl).trans k7
  rw [this,HDd.out]
 have k8:w3.cell? ⟨b,8,none⟩=some (.slice A pn pc):=(cc ⟨b,8,none⟩ szb).trans m8
 have kf:=hnd3.frozen
 have z3:w.heap.size≤w3.heap.size:=B3.out.size
 have R4:=Lib.hid (HR.out.setPeers B3.out HT3.out)
 have K4:=Lib.hid ((Kept.of_below (f:=f) B3.out).set HFb.out 8 (.slice A3 pn c3))
 clear hb3 hb3' cc kk m8 m5 b0 b1 b2 R3 hnd3 T3
 go_simp
 have zz4:(w3.setCell ⟨b,8,none⟩ (.slice A3 pn c3)).heap.size=w3.heap.size:=by simp
 have HTd:=Lib.hid (told_ok b { s with peers:=X } (ext f w.heap.size w3.heap.size) _ R4.out HNk.out)
 have bw3:b<w3.heap.size:=by omega
 go_wp2_with fail
 refine HTd.out.mono ?_
 rintro e w5 ⟨A5,c5,rfl,own5,rep5,kept5⟩
 have O5:=Lib.hid own5
 have R5:=Lib.hid rep5
 have K5:=Lib.hid (K4.out.trans kept5 (fun x hx hfx=>by
  rcases hfx with hfx | hfx
  ·exact hfx
  ·omega))
 have z5:=kept5.size
 clear own5 rep5 kept5
 go_wp2_with fail
 go_ret2
 exact ⟨{ s with peers:=X },A5,c5,w3.heap.size,by rw [HX.out],rfl,by have:=O5.out;rw [zz4] at this;exact this,R5.out,z3,by omega,K5.out⟩
end Go.Proofs.YtnaebigoknfndaaGreatDoor
namespace Go.Proofs.YtnaebigoknfndaaGreatDoor
open Go Go.RowKit
theorem NOK.add {s:NSt} {id:ByteArray} {every:Int} (ok:NOK s) (hid:IdOK (byts id)) (he:0≤every∧every≤16777216) (hno:has s.peers id=false) (h6:s.peers.length<6):NOK { s with peers:=addS (newP id s.cap every s.now) s.peers }:=by
 refine ⟨ok.id,ok.inc,ok.every,ok.cap,ok.least,ok.now,ok.seq,ok.drops,addS_tab ok.tab (newP_ok hid ok.cap he ok.now) h6 hno,fun p hp=>?_,ok.subs⟩
 rcases addS_mem.1 (show p∈addS (newP id s.cap every s.now) s.peers from hp) with rfl | hp'
 ·exact ⟨by simp [newP],Int.le_refl _⟩
 ·exact ok.wins p hp'
theorem nwatch_ok (b:Nat) (s:NSt) (f:Nat→Prop) (id:ByteArray) (every:Int) (w:World) (h:NRep w b s f) (ok:NOK s) (hne:id≠s.id) (hid:IdOK (byts id)) (he:0≤every∧every≤16777216) (hno:has s.peers id=false) (h6:s.peers.length<6) :
  Calls Tryz.prog 119 #[.pointer (some ⟨b,0,none⟩),.string id,.int .i64 every] w fun e w'=>e=.returned (.int .i64 0)∧(∃ m,NRep w' b { s with peers:=addS (newP id s.cap every s.now) s.peers } (ext f w.heap.size m))∧Kept f w w':=by
 have HR:=Lib.hid h
 obtain ⟨A,pn,pc,S,hnd,hpr⟩:=h.node
 have hbl:=hnd.lt
 have hfb:=h.fb
 have HFb:=Lib.hid hfb
 obtain ⟨k0,_,_,k3,_,k5,_,_,k8,_⟩:=hnd.cells
 have kf:=hnd.frozen
 have HPr:=Lib.hid hpr
 have HAd:=Lib.hid (fun w' (hr:PRow w' A pn s.peers f)=>padd_ok A pn pc s.peers f id s.cap every s.now w' hr ok.tab hid ok.cap he ok.now hno h6)
 obtain ⟨X,hX⟩:∃ X,addS (newP id s.cap every s.now) s.peers=X:=⟨_,rfl⟩
 rw [hX] at HAd
 have HX:=Lib.hid hX
 have hs:=str_ne hne
 obtain ⟨cp,hcp⟩:∃ x,s.cap=x:=⟨_,rfl⟩
 obtain ⟨nw,hnw⟩:∃ x,s.now=x:=⟨_,rfl⟩
 rw [hcp] at k3
 rw [hnw] at k5
 rw [hcp,hnw] at HAd
 clear h ok hnd hfb hpr hX hne hid he hno h6 hcp hnw
 go_enter Tryz.func119,Tryz.ntmps119
 go_wp2_with fail
 have kk:w.drew.cell? ⟨b,8,none⟩=some (.slice A pn pc)∧w.drew.cell? ⟨b,3,none⟩=some (.int .i64 cp)∧w.drew.cell? ⟨b,5,none⟩=some (.int .i64 nw):=⟨k8,k3,k5⟩
 refine wp_region_M (fun w'=>w'.cell? ⟨b,8,none⟩=some (.slice A pn pc)∧w'.cell? ⟨b,3,none⟩=some (.int .i64 cp)∧w'.cell? ⟨b,5,none⟩=some (.int .i64 nw)) (fun j=>decide (16≤j)) 21 rfl (by kernel_rfl) ?_
 (refine wpAnyM_tk (i:=0) (v:=?_) rfl (Or.inl ⟨by rfl,?_⟩) kk ?_;(rotate_left;(intro w hSw;(try dsimp only at hSw);go_simp;try with_reducible rfl));(try simp only [Act.put,List.setIfInBounds_toArray,List.set_cons_zero,List.set_cons_succ]))
 (refine wpAnyM_tk (i:=1) (v:=?_) rfl (Or.inl ⟨by rfl,?_⟩) kk ?_;(rotate_left;(intro w hSw;(try dsimp only at hSw);go_simp;try with_reducible rfl));(try simp only [Act.put,List.setIfInBounds_toArray,List.set_cons_zero,List.set_cons_succ]))
 (refine wpAnyM_tk (i:=2) (v:=?_) rfl (Or.inl ⟨by rfl,?_⟩) kk ?_;(rotate_left;(intro w hSw;(try dsimp only at hSw);go_simp;try with_reducible rfl));(try simp only [Act.put,List.setIfInBounds_toArray,List.set_cons_zero,List.set_cons_succ]))
 (refine wpAnyM_tk (i:=3) (v:=?_) rfl (Or.inl ⟨by rfl,?_⟩) kk ?_;(rotate_left;(intro w hSw;(try dsimp only at hSw);go_simp;try with_reducible rfl));(try simp only [Act.put,List.setIfInBounds_toArray,List.set_cons_zero,List.set_cons_succ]))
 (refine wpAnyM_tk (i:=4) (v:=?_) rfl (Or.inl ⟨by rfl,?_⟩) kk ?_;(rotate_left;(intro w hSw;(try dsimp only at hSw);go_simp;try with_reducible rfl));(try simp only [Act.put,List.setIfInBounds_toArray,List.set_cons_zero,List.set_cons_succ]))
 (refine wpAnyM_tk (i:=5) (v:=?_) rfl (Or.inl ⟨by rfl,?_⟩) kk ?_;(rotate_left;(intro w hSw;(try dsimp only at hSw);go_simp;try with_reducible rfl));(try simp only [Act.put,List.setIfInBounds_toArray,List.set_cons_zero,List.set_cons_succ]))
 (refine wpAnyM_tk (i:=6) (v:=?_) rfl (Or.inl ⟨by rfl,?_⟩) kk ?_;(rotate_left;(intro w hSw;(try dsimp only at hSw);go_simp;try with_reducible rfl));(try simp only [Act.put,List.setIfInBounds_toArray,List.set_cons_zero,List.set_cons_succ]))
 (refine wpAnyM_tk (i:=7) (v:=?_) rfl (Or.inl ⟨by rfl,?_⟩) kk ?_;(rotate_left;(intro w hSw;(try dsimp only at hSw);go_simp;try with_reducible rfl));(try simp only [Act.put,List.setIfInBounds_toArray,List.set_cons_zero,List.set_cons_succ]))
 (refine wpAnyM_tk (i:=8) (v:=?_) rfl (Or.inl ⟨by rfl,?_⟩) kk ?_;(rotate_left;(intro w hSw;(try dsimp only at hSw);go_simp;try with_reducible rfl));(try simp only [Act.put,List.setIfInBounds_toArray,List.set_cons_zero,List.set_cons_succ]))
 (refine wpAnyM_tk (i:=9) (v:=?_) rfl (Or.inl ⟨by rfl,?_⟩) kk ?_;(rotate_left;(intro w hSw;(try dsimp only at hSw);go_simp;try with_reducible rfl));(try simp only [Act.put,List.setIfInBounds_toArray,List.set_cons_zero,List.set_cons_succ]))
 (refine wpAnyM_tk (i:=10) (v:=?_) rfl (Or.inl ⟨by rfl,?_⟩) kk ?_;(rotate_left;(intro w hSw;(try dsimp only at hSw);go_simp;try with_reducible rfl));(try simp only [Act.put,List.setIfInBounds_toArray,List.set_cons_zero,List.set_cons_succ]))
 (refine wpAnyM_tk (i:=11) (v:=?_) rfl (Or.inl ⟨by rfl,?_⟩) kk ?_;(rotate_left;(intro w hSw;(try dsimp only at hSw);go_simp;try with_reducible rfl));(try simp only [Act.put,List.setIfInBounds_toArray,List.set_cons_zero,List.set_cons_succ]))
 (refine wpAnyM_tk (i:=12) (v:=?_) rfl (Or.inl ⟨by rfl,?_⟩) kk ?_;(rotate_left;(intro w hSw;(try dsimp only at hSw);go_simp;try with_reducible rfl));(try simp only [Act.put,List.setIfInBounds_toArray,List.set_cons_zero,List.set_cons_succ]))
 (refine wpAnyM_tk (i:=13) (v:=?_) rfl (Or.inl ⟨by rfl,?_⟩) kk ?_;(rotate_left;(intro w hSw;(try dsimp only at hSw);go_simp;try with_reducible rfl));(try simp only [Act.put,List.setIfInBounds_toArray,List.set_cons_zero,List.set_cons_succ]))
 (refine wpAnyM_tk (i:=14) (v:=?_) rfl (Or.inl ⟨by rfl,?_⟩) kk ?_;(rotate_left;(intro w hSw;(try dsimp only at hSw);go_simp;try with_reducible rfl));(try simp only [Act.put,List.setIfInBounds_toArray,List.set_cons_zero,List.set_cons_succ]))
 refine wpAnyM_one (i:=15) (by kernel_rfl) rfl (fun K hK=>?_)
 go_simp
 refine (HAd.out _ (HPr.out.below (Below.drew (Below.refl _ w)))).mono ?_
 rintro e w3 ⟨A3,c3,rfl,T3,hb3⟩
 have hb3':Below w.heap.size w w3:=(Below.drew (Below.refl _ w)).trans hb3
 have cc:∀ p:Addr,p.block<w.heap.size→w3.cell? p=w.cell? p:=fun p hp=>hb3'.cell hp
 have HT3:=Lib.hid (show Tab w3 w.heap.size A3 (pn+1) c3 X from T3)
 go_simp
 refine hK _ _ (fun _=>⟨(cc _ hbl).trans k8,(cc _ hbl).trans k3,(cc _ hbl).trans k5⟩) ?_
 clear hK K
 refine wpAnyM_rest (by kernel_rfl) ?_
 (refine wpAny_take (i:=16) (v:=?_) rfl (by kernel_rfl) (by kernel_rfl) (by kernel_rfl) (fun _ _ _ h=>h) (Or.inl ⟨by rfl,?_⟩) ?_;(rotate_left;(intro w;go_simp;try with_reducible rfl)))
 (refine wpAny_take (i:=17) (v:=?_) rfl (by kernel_rfl) (by kernel_rfl) (by kernel_rfl) (fun _ _ _ h=>h) (Or.inl ⟨by rfl,?_⟩) ?_;(rotate_left;(intro w;go_simp;try with_reducible rfl)))
 (refine wpAny_take (i:=18) (v:=?_) rfl (by kernel_rfl) (by kernel_rfl) (by kernel_rfl) (fun _ _ _ h=>h) (Or.inl ⟨by rfl,?_⟩) ?_;(rotate_left;(intro w;go_simp;try with_reducible rfl)))
 (refine wpAny_take (i:=19) (v:=?_) rfl (by kernel_rfl) (by kernel_rfl) (by kernel_rfl) (fun _ _ _ h=>h) (Or.inl ⟨by rfl,?_⟩) ?_;(rotate_left;(intro w;go_simp;try with_reducible rfl)))
 (refine wpAny_take (i:=20) (v:=?_) rfl (by kernel_rfl) (by kernel_rfl) (by kernel_rfl) (fun _ _ _ h=>h) (Or.inl ⟨by rfl,?_⟩) ?_;(rotate_left;(intro w;go_simp;try with_reducible rfl)))
 refine wpAny_done (by kernel_rfl) ?_ _
 have m8:=(cc ⟨b,8,none⟩ hbl).trans k8
 have mf:∀ o,w3.frozen? ⟨b,o,none⟩=false:=fun o=>(World.frozen?_of_block (hb3'.block b hbl)).trans (kf o)
 have R4:=Lib.hid (HR.out.setPeers hb3' HT3.out)
 have K4:=Lib.hid ((Kept.of_below (f:=f) hb3').set HFb.out 8 (.slice A3 (pn+1) c3))
 clear hb3 hb3' cc kk k0 k3 k5 k8 kf T3
 go_simp
 go_wp2_with fail
 go_ret
 exact ⟨rfl,⟨_,by rw [HX.out];exact R4.out⟩,K4.out⟩
theorem NRep.new {w:World} {b:Nat} {id:ByteArray} {inc every cap least:Int} (h:NodeAt w b id inc every cap least 0 0 0 (.slice none 0 0) (.slice none 0 0)):NRep w b ⟨id,inc,every,cap,least,0,0,0,[],[]⟩ (fun x=>x=b):=
 ⟨none,0,0,.slice none 0 0,h,rfl,PRow.nil _ _ _,World.ownsRow_nil _ _ _ _,fun g hg=>(by cases hg),fun x hx=>by rw [hx];exact h.lt⟩
theorem NOK.new {id:ByteArray} {inc every cap least:Int} (hid:IdOK (byts id)) (hi:0≤inc∧inc<2147483648) (he:1≤every∧every≤16777216) (hc:1≤cap∧cap≤64) (hl:1≤least∧least≤16777216):NOK ⟨id,inc,every,cap,least,0,0,0,[],[]⟩:=
 ⟨hid,hi,he,hc,hl,by simp,by simp,by simp,⟨by simp,by simp,by simp⟩,by simp,by simp⟩
end Go.Proofs.YtnaebigoknfndaaGreatDoor
