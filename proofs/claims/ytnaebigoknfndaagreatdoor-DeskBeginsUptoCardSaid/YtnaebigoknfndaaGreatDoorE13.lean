/- What the desk's two laws lean on: part 13 (contracts and plain laws; their conditions stand in each). -/
import Derived.Test.YtnaebigoknfndaaGreatDoorE01
import Derived.Test.YtnaebigoknfndaaGreatDoorE12
import Derived.Test.YtnaebigoknfndaaGreatDoorE02
import Derived.Test.YtnaebigoknfndaaGreatDoorE06
import Derived.Laws.AppendOwnNone
import Derived.Test.YtnaebigoknfndaaGreatDoorE07
import Derived.Test.YtnaebigoknfndaaGreatDoorE05
import Derived.Deep.DeepCutAuto
import Derived.Test.YtnaebigoknfndaaGreatDoorE04
import Derived.Maps.AppendAt
import Derived.Deep.RegionLaw
import Derived.Deep.AppendLies
set_option linter.unusedVariables false
set_option linter.unusedSimpArgs false
set_option maxRecDepth 100000
set_option maxHeartbeats 20000000
namespace Go.Proofs.YtnaebigoknfndaaGreatDoor
open Go Go.RowKit
def SubAt (w:World) (b o:Nat) (s:Sub):Prop:=
 w.cell? ⟨b,o,none⟩=some (.string s.id)∧w.cell? ⟨b,o+1,none⟩=some (.int .i64 s.theta)∧w.cell? ⟨b,o+2,none⟩=some (.bool s.on)
def SRow (w:World) (A:Option Addr) (n:Nat) (L:List Sub):Prop:=
 L.length=n∧(0<n→∃ b off,A=some ⟨b,off,none⟩∧b<w.heap.size∧∀ k,k<n→SubAt w b (off+k * 3) (L.getD k default))
theorem SRow.below {w w':World} {A:Option Addr} {n:Nat} {L:List Sub} (h:SRow w A n L) (hb:Below w.heap.size w w'):SRow w' A n L:=by
 refine ⟨h.1,fun h0=>?_⟩
 obtain ⟨b,off,hA,lb,hp⟩:=h.2 h0
 refine ⟨b,off,hA,Nat.lt_of_lt_of_le lb hb.size,fun k hk=>?_⟩
 obtain ⟨a1,a2,a3⟩:=hp k hk
 exact ⟨(hb.cell (p:=⟨b,_,none⟩) lb).trans a1,(hb.cell (p:=⟨b,_,none⟩) lb).trans a2,(hb.cell (p:=⟨b,_,none⟩) lb).trans a3⟩
theorem SRow.at {w:World} {A:Option Addr} {n:Nat} {L:List Sub} (h:SRow w A n L) {k:Nat} (hk:k<n):∃ b off,A=some ⟨b,off,none⟩∧b<w.heap.size∧SubAt w b (off+k * 3) (L.getD k default):=by
 obtain ⟨b,off,hA,lb,hp⟩:=h.2 (by omega)
 exact ⟨b,off,hA,lb,hp k hk⟩
theorem srow_own {w:World} {base n c:Nat} {A:Option Addr} {L:List Sub} (h:w.ownsRow base 197 3 (.slice A n c) n (subsC L)) (hn:L.length=n):SRow w A n L:=by
 refine ⟨hn,fun h0=>?_⟩
 have h4:=h
 rcases h.2 with ⟨_,h0'⟩ | ⟨g,c',cur,he,_,hg,hnc,hcm,hcs,htk⟩
 ·omega
 simp only [Value.slice.injEq] at he
 obtain ⟨rfl,_,rfl⟩:=he
 refine ⟨g,0,rfl,(Array.getElem?_eq_some_iff.1 hg).1,fun k hk=>?_⟩
 have cell:∀ i,i<3→w.cell? ⟨g,0+k * 3+i,none⟩=(subC (L.getD k default))[i]?:=fun i hi=>by
  have hs:=subsC_get L k i (by omega) hi
  have hi':i<(subC (L.getD k default)).length:=by simpa [subC] using hi
  have:=h4.cells (g:=g) rfl (k * 3+i) ((subC (L.getD k default))[i]) (by rw [hs,List.getElem?_eq_getElem hi'])
  rw [Go.WideShapes.add_plain,Nat.zero_add] at this
  rw [Nat.zero_add,this,List.getElem?_eq_getElem hi']
 exact ⟨cell 0 (by omega),cell 1 (by omega),cell 2 (by omega)⟩
def hitS (id:ByteArray) (th:Int) (u:Sub):Bool:=(u.id.toList==id.toList) && (u.theta==th)
def idxS (p:Sub→Bool) (L:List Sub):Int:=if L.any p then (L.findIdx p:Int) else -1
theorem idxS_some {p:Sub→Bool} {L:List Sub} {k:Nat} (hk:k<L.length) (h:p (L.getD k default)=true) (hj:∀ j,j<k→p (L.getD j default)=false):idxS p L=k:=by
 have g:∀ j (hj:j<L.length),L.getD j default=L[j]:=fun j hj=>by rw [List.getD_eq_getElem?_getD,List.getElem?_eq_getElem hj];rfl
 have ha:L.any p=true:=List.any_eq_true.2 ⟨L[k],List.getElem_mem _,by rw [← g k hk];exact h⟩
 unfold idxS
 rw [if_pos ha,(List.findIdx_eq hk).2 ⟨by rw [← g k hk];exact h,fun j hji=>by rw [← g j (by omega)];exact hj j hji⟩]
theorem idxS_none {p:Sub→Bool} {L:List Sub} (hj:∀ j,j<L.length→p (L.getD j default)=false):idxS p L = -1:=by
 have g:∀ j (hj:j<L.length),L.getD j default=L[j]:=fun j hj=>by rw [List.getD_eq_getElem?_getD,List.getElem?_eq_getElem hj];rfl
 have ha:¬ L.any p=true:=fun h=>by
  obtain ⟨u,hu,hpu⟩:=List.any_eq_true.1 h
  obtain ⟨j,hjl,rfl⟩:=List.getElem_of_mem hu
  have:=hj j hjl
  rw [g j hjl,hpu] at this
  cases this
 unfold idxS
 rw [if_neg ha]
theorem join1_ok (s id:ByteArray) (x th:Int) (on:Bool) (b1 b2:Nat) (r1 r2 r:Bool) (w:World) (hc1:w.cell? ⟨b1,0,none⟩=some (.string id)) (hb1:b1<w.heap.size) (hc2:w.cell? ⟨b2,0,none⟩=some (.int .i64 th)) (hb2:b2<w.heap.size) (hr1:(s.toList==id.toList)=r1) (hr2:(x==th)=r2) (hrr:(r1 && r2)=r) :
  Calls Tryz.prog 156 #[.agg #[.string s,.int .i64 x,.bool on],.pointer (some ⟨b1,0,none⟩),.pointer (some ⟨b2,0,none⟩)] w fun e w'=>e=.returned (.bool r)∧Below w.heap.size w w':=by
 subst hrr
 have qa:=alloc_cells
 have qf:=alloc_frozens
 cases r1 <;> cases r2
 all_goals
  go_enter Tryz.func156,Tryz.ntmps156
  go_wp2_with fail
  go_ret
  exact ⟨rfl,(by repeat (first | (with_reducible exact Below.refl _ _) | (with_reducible refine bAl ?_ _) | (with_reducible refine bSc ?_ _) | (with_reducible refine Below.drew ?_) | (refine Below.trans ?_ (by assumption))))⟩
theorem index_join (A:Option Addr) (n c:Nat) (L:List Sub) (id:ByteArray) (th:Int) (b1 b2:Nat) (w:World) (hr:SRow w A n L) (hn:n≤1000) (hc1:w.cell? ⟨b1,0,none⟩=some (.string id)) (hc2:w.cell? ⟨b2,0,none⟩=some (.int .i64 th)) :
  Calls Tryz.prog 181 #[.slice A n c,.func (.func 156) #[] #[.pointer (some ⟨b1,0,none⟩),.pointer (some ⟨b2,0,none⟩)]] w fun e w'=>e=.returned (.int .i64 (idxS (hitS id th) L))∧Below w.heap.size w w':=by
 have hl:=hr.1
 have HR:=Lib.hid hr
 have lb1:=World.block_lt_of_cell? w _ hc1
 have lb2:=World.block_lt_of_cell? w _ hc2
 have HC1:=Lib.hid hc1
 have HC2:=Lib.hid hc2
 have HF:=Lib.hid join1_ok
 clear hr hc1 hc2
 have qa:=alloc_cells
 have qf:=alloc_frozens
 go_enter Tryz.func181,Tryz.ntmps181
 go_wp2_with fail
 go_loopw [8] (fun v wr=>∃ k:Nat,k≤n∧v=.int .i64 k∧(∀ j,j<k→hitS id th (L.getD j default)=false)∧Below w.heap.size w wr) (fun v _=>n - (intOf v).toNat)
 case atStart=>exact ⟨0,Nat.zero_le _,rfl,fun j hj=>absurd hj (by omega),(by repeat (first | (with_reducible exact Below.refl _ _) | (with_reducible refine bAl ?_ _) | (with_reducible refine bSc ?_ _) | (with_reducible refine Below.drew ?_) | (refine Below.trans ?_ (by assumption))))⟩
 case round=>
  obtain ⟨k,hk,rfl,hno,bel⟩:=hrel
  have sz0:=bel.size
  have cb1:wr.cell? ⟨b1,0,none⟩=some (.string id):=(bel.cell (p:=⟨b1,0,none⟩) lb1).trans HC1.out
  have cb2:wr.cell? ⟨b2,0,none⟩=some (.int .i64 th):=(bel.cell (p:=⟨b2,0,none⟩) lb2).trans HC2.out
  have bz1:b1<wr.heap.size:=by omega
  have bz2:b2<wr.heap.size:=by omega
  by_cases hlt:k<n
  ·obtain ⟨b,off,rfl,lb,hp⟩:=(HR.out.below bel).at hlt
   obtain ⟨u,huk⟩:∃ u,L.getD k default=u:=⟨_,rfl⟩
   rw [huk] at hp
   obtain ⟨k0,k1,k2⟩:=hp
   have B0:=Lib.hid bel
   obtain ⟨r1,hr1⟩:∃ r,(u.id.toList==id.toList)=r:=⟨_,rfl⟩
   obtain ⟨r2,hr2⟩:∃ r,(u.theta==th)=r:=⟨_,rfl⟩
   have hh:hitS id th u=(r1 && r2):=by unfold hitS;rw [hr1,hr2]
   have HR1:=Lib.hid hr1
   have HR2:=Lib.hid hr2
   obtain ⟨r,hrr⟩:∃ r,(r1 && r2)=r:=⟨_,rfl⟩
   rw [hrr] at hh
   have HRR:=Lib.hid hrr
   cases r with
   | true=>
    have HKi:=Lib.hid (idxS_some (p:=hitS id th) (L:=L) (k:=k) (by omega) (by rw [huk];exact hh) hno)
    clear bel hno huk hh hr1 hr2 hrr
    go_wp2_with fail
    refine (HF.out _ id _ th _ b1 b2 r1 r2 true _ cb1 bz1 cb2 bz2 HR1.out HR2.out HRR.out).mono ?_
    rintro e w1 ⟨rfl,hb1⟩
    have z1:=hb1.size
    have c1:=Below.cells hb1
    have f1:=Below.frozens hb1
    try simp only [World.size_alloc,World.size_setCell,World.size_drew] at z1 c1 f1
    go_wp2_with fail
    go_ret
    exact ⟨by rw [HKi.out];rfl,B0.out.trans (Below.mono hb1 sz0)⟩
   | false=>
    have HNo:=Lib.hid (show ∀ j,j<k+1→hitS id th (L.getD j default)=false from fun j hj=>by
     rcases Nat.lt_or_ge j k with c | c
     ·exact hno j c
     ·obtain rfl:j=k:=by omega
      rw [huk];exact hh)
    clear bel hno huk hh hr1 hr2 hrr
    go_wp2_with fail
    refine (HF.out _ id _ th _ b1 b2 r1 r2 false _ cb1 bz1 cb2 bz2 HR1.out HR2.out HRR.out).mono ?_
    rintro e w1 ⟨rfl,hb1⟩
    have z1:=hb1.size
    have c1:=Below.cells hb1
    have f1:=Below.frozens hb1
    try simp only [World.size_alloc,World.size_setCell,World.size_drew] at z1 c1 f1
    go_wp2_with fail
    go_roundw
    case rel=>exact ⟨k+1,by omega,by go_num,HNo.out,B0.out.trans (Below.mono hb1 sz0)⟩
    case measure=>simp [intOf];omega
  ·obtain rfl:n=k:=by omega
   have HKi:=Lib.hid (idxS_none (p:=hitS id th) (L:=L) (fun j hj=>hno j (by omega)))
   clear hno
   go_wp2_with fail
   go_ret
   exact ⟨by rw [HKi.out];rfl,bel⟩
theorem contains_sub (A:Option Addr) (n c:Nat) (L:List Sub) (id:ByteArray) (th:Int) (b1 b2:Nat) (w:World) (hr:SRow w A n L) (hn:n≤1000) (hc1:w.cell? ⟨b1,0,none⟩=some (.string id)) (hc2:w.cell? ⟨b2,0,none⟩=some (.int .i64 th)) :
  Calls Tryz.prog 155 #[.slice A n c,.func (.func 156) #[] #[.pointer (some ⟨b1,0,none⟩),.pointer (some ⟨b2,0,none⟩)]] w fun e w'=>e=.returned (.bool (decide (0≤idxS (hitS id th) L)))∧Below w.heap.size w w':=by
 have HI:=Lib.hid (index_join A n c L id th b1 b2 w hr hn hc1 hc2)
 obtain ⟨i,hi⟩:∃ i,idxS (hitS id th) L=i:=⟨_,rfl⟩
 rw [hi] at HI ⊢
 clear hr hc1 hc2 hi
 go_enter Tryz.func155,Tryz.ntmps155
 go_wp2_with fail
 refine HI.out.mono ?_
 rintro e w1 ⟨rfl,hb1⟩
 go_wp2_with fail
 go_ret
 exact ⟨rfl,hb1⟩
end Go.Proofs.YtnaebigoknfndaaGreatDoor
namespace Go.Proofs.YtnaebigoknfndaaGreatDoor
open Go Go.RowKit
theorem info_sub:(Tryz.prog.info? 197).map (fun i=>(i.zero,i.size,i.bytes))=some (some (.agg #[.string ⟨#[]⟩,.int .i64 0,.bool false]),3,32):=by kernel_rfl
theorem info_subs:Tryz.prog.underlying 175=some (.slice 197):=by kernel_rfl
end Go.Proofs.YtnaebigoknfndaaGreatDoor
namespace Go.Proofs.YtnaebigoknfndaaGreatDoor
open Go Go.RowKit
theorem subsC_app (L M:List Sub):subsC (L++M)=subsC L++subsC M:=by simp [subsC]
theorem NRep.subRow {w:World} {b:Nat} {s:NSt} {f:Nat→Prop} (h:NRep w b s f):∃ A c,w.cell? ⟨b,9,none⟩=some (.slice A s.subs.length c)∧w.ownsRow 0 197 3 (.slice A s.subs.length c) s.subs.length (subsC s.subs)∧b<w.heap.size∧∀ o,w.frozen? ⟨b,o,none⟩=false:=by
 obtain ⟨A,n,c0,S,h1,h2,h3,h4,h5,h6⟩:=h
 have hform:=own_form h4
 obtain ⟨SA,Sc,rfl,_,_,_⟩:=hform
 obtain ⟨_,_,_,_,_,_,_,_,_,k9⟩:=h1.cells
 exact ⟨SA,Sc,k9,h4,h1.lt,h1.frozen⟩
end Go.Proofs.YtnaebigoknfndaaGreatDoor
namespace Go.Proofs.YtnaebigoknfndaaGreatDoor
open Go Go.RowKit
theorem NRep.growSubs {w w0 w1:World} {b gg cap n:Nat} {s:NSt} {f:Nat→Prop} {L:List Sub} {A:Option Addr} {c:Nat} (h:NRep w b s f) (hb:Below w.heap.size w w0) (h9:w.cell? ⟨b,9,none⟩=some (.slice A n c)) (hg:w0.grownBy w1 (Value.slice A n c).ownBlock)
  (ho:w1.ownsRow 0 197 3 (.slice (some ⟨gg,0,none⟩) L.length cap) L.length (subsC L)) (hat:(Value.slice A n c).ownBlock=some gg∨gg=w0.heap.size) (hlt:gg<w1.heap.size) :
  NRep (w1.setCell ⟨b,9,none⟩ (.slice (some ⟨gg,0,none⟩) L.length cap)) b { s with subs:=L } (ext f w.heap.size w1.heap.size)∧Kept f w (w1.setCell ⟨b,9,none⟩ (.slice (some ⟨gg,0,none⟩) L.length cap)):=by
 obtain ⟨A0,n0,c0,S,h1,h2,h3,h4,h5,h6⟩:=h
 obtain ⟨_,_,_,_,_,_,_,_,_,k9⟩:=h1.cells
 rw [k9] at h9
 cases h9
 have hz0:=hb.size
 have hz:=hg.size
 have hbl:=h6 b h2
 have blk:∀ x,x<w.heap.size→(Value.slice A n c).ownBlock≠some x→w1.heap[x]? = w.heap[x]?:=fun x hx hn=>(hg.block x (by omega) (Ne.symm hn)).trans (hb.block x hx)
 have bn:(Value.slice A n c).ownBlock≠some b:=fun e=>(h5 b e).2 rfl
 have ggb:gg≠b:=fun e=>by
  subst e
  rcases hat with e | e
  ·exact bn e
  ·omega
 refine ⟨⟨A0,n0,c0,_,((h1.same (blk b hbl bn)).setSubs _),.inl h2,?_,own_elsewhere ho (fun e=>ggb (by cases e;rfl)) _ _,fun x hx=>?_,fun x hx=>?_⟩,?_⟩
 ·refine (h3.same ⟨by simp only [World.size_setCell];omega,fun x hx hfx=>(Below.heap_setCell _ _ _ _ (fun e=>hfx.2.1 e)).trans (blk x hx hfx.2.2)⟩).imp fun x hx=>⟨.inl hx.1,hx.2.1,fun e=>?_⟩
  have e':gg=x:=by cases e;rfl
  subst e'
  rcases hat with e2 | e2
  ·exact hx.2.2 e2
  ·have:=h6 gg hx.1;omega
 ·have e':gg=x:=by cases hx;rfl
  subst e'
  refine ⟨?_,ggb⟩
  rcases hat with e2 | e2
  ·exact .inl (h5 gg e2).1
  ·exact .inr ⟨by omega,hlt⟩
 ·simp only [World.size_setCell]
  rcases hx with hx | hx
  ·have:=h6 x hx;omega
  ·exact hx.2
 ·refine ⟨hg.os.trans hb.os,hg.tape.trans hb.tape,hg.output.trans hb.output,by simp only [World.size_setCell];omega,fun x hx hfx=>(Below.heap_setCell _ _ _ _ (fun e=>hfx (by rw [e];exact h2))).trans (blk x hx (fun e=>hfx (h5 x e).1))⟩
theorem NRep.subOff {w:World} {b n:Nat} {s:NSt} {f:Nat→Prop} {A:Option Addr} {c:Nat} (h:NRep w b s f) (h9:w.cell? ⟨b,9,none⟩=some (.slice A n c)):some b≠(Value.slice A n c).ownBlock:=fun e=>by
 obtain ⟨A0,n0,c0,S,h1,h2,h3,h4,h5,h6⟩:=h
 obtain ⟨_,_,_,_,_,_,_,_,_,k9⟩:=h1.cells
 rw [k9] at h9
 cases h9
 exact (h5 b e.symm).2 rfl
def joinS (s:NSt) (id:ByteArray) (th:Int):NSt:={ s with subs:=s.subs ++ [⟨id,th,false⟩] }
theorem NOK.join {s:NSt} (h:NOK s) (id:ByteArray) (th:Int) (h8:s.subs.length<8):NOK (joinS s id th):=⟨h.id,h.inc,h.every,h.cap,h.least,h.now,h.seq,h.drops,h.tab,h.wins,by show (s.subs ++ [_]).length≤8;simp;omega⟩
theorem njoin_ok (b:Nat) (s:NSt) (f:Nat→Prop) (id:ByteArray) (th:Int) (w:World) (h:NRep w b s f) (ok:NOK s) (ht:1≤th∧th≤60) (hid:has s.peers id=true) (hx:idxS (hitS id th) s.subs = -1) (h8:s.subs.length<8) :
  Calls Tryz.prog 126 #[.pointer (some ⟨b,0,none⟩),.string id,.int .i64 th] w fun e w'=>∃ A' c' m,e=.returned (.tuple #[.slice A' (toldN (joinS s id th)).length c',.int .i64 0])∧w'.ownsRow m 155 3 (.slice A' (toldN (joinS s id th)).length c') (toldN (joinS s id th)).length (notesC (toldN (joinS s id th))) ∧
   NRep w' b { s with subs:=toldS (joinS s id th) } (ext f w.heap.size m)∧w.heap.size≤m∧m≤w'.heap.size∧Kept f w w':=by
 have HRep:=Lib.hid h
 obtain ⟨A,c,k9,own,hbl,kf⟩:=h.subRow
 have SR:=Lib.hid (srow_own own rfl)
 have HC:=Lib.hid (fun w' b1 b2 (hr:SRow w' A s.subs.length s.subs) h1 h2=>contains_sub A s.subs.length c s.subs id th b1 b2 w' hr (by omega) h1 h2)
 rw [hx] at HC
 have HLv:=Lib.hid (fun w' (h:NRep w' b s f)=>nlevel_ok b s f id w' h ok (levN s id) 0 rfl (by rw [hid];rfl))
 have HT:=Lib.hid (fun f' w' (h:NRep w' b (joinS s id th) f')=>told_ok b (joinS s id th) f' w' h (ok.join id th h8))
 obtain ⟨lvl,hlvl⟩:∃ x,levN s id=x:=⟨_,rfl⟩
 rw [hlvl] at HLv
 have OWN:=Lib.hid own
 obtain ⟨n,hn⟩:∃ n,s.subs.length=n:=⟨_,rfl⟩
 rw [hn] at k9 h8 HC OWN SR
 have HN:=Lib.hid hn
 have H9:=Lib.hid k9
 obtain ⟨t1,t2⟩:=ht
 have u1:¬ th<1:=by omega
 have u2:¬ 60<th:=by omega
 have v1:decide (th<1)=false:=by simp;omega
 have v2:decide (60<th)=false:=by simp;omega
 have e8:((n:Int)==8)=false:=by simp;omega
 obtain ⟨i0,hi,hz0,hz1,hz2⟩:=info_parts info_sub
 clear h ok own hx hn hid hlvl
 have qa:=alloc_cells
 have qf:=alloc_frozens
 go_enter Tryz.func126,Tryz.ntmps126
 go_wp2_with fail
 refine (HLv.out _ (HRep.out.below (by repeat (first | (with_reducible exact Below.refl _ _) | (with_reducible refine bAl ?_ _) | (with_reducible refine bSc ?_ _) | (with_reducible refine Below.drew ?_) | (refine Below.trans ?_ (by assumption)))))).mono ?_
 rintro e w1 ⟨rfl,hb1⟩
 have hbw1:Below w.heap.size w w1:=(by repeat (first | (with_reducible exact Below.refl _ _) | (with_reducible refine bAl ?_ _) | (with_reducible refine bSc ?_ _) | (with_reducible refine Below.drew ?_) | (with_reducible refine bTm ?_ hb1)))
 have x1:w1.cell? ⟨w.heap.size,0,none⟩=some (.string id):=(hb1.cell (p:=⟨w.heap.size,0,none⟩) (by simp;try omega)).trans (by simp [go_sem,↓IntWalk.iteOmega, *])
 have y1:w1.cell? ⟨w.heap.size+1,0,none⟩=some (.int .i64 th):=(hb1.cell (p:=⟨w.heap.size+1,0,none⟩) (by simp;try omega)).trans (by simp [go_sem,↓IntWalk.iteOmega, *])
 have z1:w.heap.size+2≤w1.heap.size:=by have:=hb1.size;simp at this;omega
 have SR1:=Lib.hid (SR.out.below hbw1)
 have c91:=(hbw1.cell (p:=⟨b,9,none⟩) hbl).trans k9
 have fz1:∀ o,w1.frozen? ⟨b,o,none⟩=false:=fun o=>(World.frozen?_of_block (hbw1.block b hbl)).trans (kf o)
 have HB1:=Lib.hid hbw1
 have XY1:=Lib.hid (And.intro x1 y1)
 clear hb1 hbw1 k9 kf
 go_wp2_with fail
 refine (HC.out w1 w.heap.size (w.heap.size+1) SR1.out XY1.out.1 XY1.out.2).mono ?_
 rintro e w2 ⟨rfl,hb2⟩
 have c92:=(hb2.cell (p:=⟨b,9,none⟩) (by have:b<w1.heap.size:=(by omega);exact this)).trans c91
 have x2:=(hb2.cell (p:=⟨w.heap.size,0,none⟩) (by have:w.heap.size<w1.heap.size:=(by omega);exact this)).trans x1
 have y2:=(hb2.cell (p:=⟨w.heap.size+1,0,none⟩) (by have:w.heap.size+1<w1.heap.size:=(by omega);exact this)).trans y1
 have fz2:∀ o,w2.frozen? ⟨b,o,none⟩=false:=fun o=>(World.frozen?_of_block (hb2.block b (by omega))).trans (fz1 o)
 have HB2:=Lib.hid (HB1.out.trans (Below.mono hb2 (by omega)))
 have z2:w.heap.size+2≤w2.heap.size:=by have:=hb2.size;omega
 clear hb2 c91 x1 y1 fz1 z1
 go_wp2_with fail
 have kk:w2.drew.cell? ⟨b,9,none⟩=some (.slice A n c)∧w2.drew.cell? ⟨w.heap.size,0,none⟩=some (.string id)∧w2.drew.cell? ⟨w.heap.size+1,0,none⟩=some (.int .i64 th):=⟨c92,x2,y2⟩
 have M3:=Lib.hid kk
 have hbl2:b<w2.heap.size:=by omega
 have hx2:w.heap.size<w2.heap.size:=by omega
 have hy2:w.heap.size+1<w2.heap.size:=by omega
 have O2:=Lib.hid (own_below OWN.out HB2.out)
 have FZ2:=Lib.hid fz2
 have hob:=Lib.hid (HRep.out.subOff H9.out)
 clear c92 x2 y2 fz2 HLv u1 u2 v1 v2 qa qf
 refine wp_region_M (fun w'=>w'.cell? ⟨b,9,none⟩=some (.slice A n c)∧w'.cell? ⟨w.heap.size,0,none⟩=some (.string id)∧w'.cell? ⟨w.heap.size+1,0,none⟩=some (.int .i64 th)) (fun j=>decide (12≤j)) 13 rfl (by kernel_rfl) ?_
 (refine wpAnyM_tk (i:=0) (v:=?_) rfl (Or.inl ⟨by rfl,?_⟩) kk ?_;(rotate_left;(intro w hSw;(try dsimp only at hSw);go_simp;try with_reducible rfl));(try simp only [Act.put,List.setIfInBounds_toArray,List.set_cons_zero,List.set_cons_succ]))
 (refine wpAnyM_tk (i:=1) (v:=?_) rfl (Or.inl ⟨by rfl,?_⟩) kk ?_;(rotate_left;(intro w hSw;(try dsimp only at hSw);go_simp;try with_reducible rfl));(try simp only [Act.put,List.setIfInBounds_toArray,List.set_cons_zero,List.set_cons_succ]))
 (refine wpAnyM_tk (i:=2) (v:=?_) rfl (Or.inl ⟨by rfl,?_⟩) kk ?_;(rotate_left;(intro w hSw;(try dsimp only at hSw);go_simp;try with_reducible rfl));(try simp only [Act.put,List.setIfInBounds_toArray,List.set_cons_zero,List.set_cons_succ]))
 (refine wpAnyM_tk (i:=3) (v:=?_) rfl (Or.inl ⟨by rfl,?_⟩) kk ?_;(rotate_left;(intro w hSw;(try dsimp only at hSw);go_simp;try with_reducible rfl));(try simp only [Act.put,List.setIfInBounds_toArray,List.set_cons_zero,List.set_cons_succ]))
 (refine wpAnyM_tk (i:=4) (v:=?_) rfl (Or.inl ⟨by rfl,?_⟩) kk ?_;(rotate_left;(intro w hSw;(try dsimp only at hSw);go_simp;try with_reducible rfl));(try simp only [Act.put,List.setIfInBounds_toArray,List.set_cons_zero,List.set_cons_succ]))
 (refine wpAnyM_tk (i:=5) (v:=?_) rfl (Or.inl ⟨by rfl,?_⟩) kk ?_;(rotate_left;(intro w hSw;(try dsimp only at hSw);go_simp;try with_reducible rfl));(try simp only [Act.put,List.setIfInBounds_toArray,List.set_cons_zero,List.set_cons_succ]))
 (refine wpAnyM_tk (i:=6) (v:=?_) rfl (Or.inl ⟨by rfl,?_⟩) kk ?_;(rotate_left;(intro w hSw;(try dsimp only at hSw);go_simp;try with_reducible rfl));(try simp only [Act.put,List.setIfInBounds_toArray,List.set_cons_zero,List.set_cons_succ]))
 (refine wpAnyM_tk (i:=7) (v:=?_) rfl (Or.inl ⟨by rfl,?_⟩) kk ?_;(rotate_left;(intro w hSw;(try dsimp only at hSw);go_simp;try with_reducible rfl));(try simp only [Act.put,List.setIfInBounds_toArray,List.set_cons_zero,List.set_cons_succ]))
 refine wpAnyM_one (i:=8) (by kernel_rfl) rfl (fun K hK=>?_)
 go_simp
 have al:∀ p,p.block<w2.heap.size→((w2.alloc (.cells #[.string id,.int .i64 th,.bool false] 197)).drew).cell? p=w2.cell? p:=fun p hp=>World.cell?_alloc_lt _ _ _ hp
 refine hK _ _ (fun _=>⟨(al _ hbl2).trans M3.out.1,(al _ hx2).trans M3.out.2.1,(al _ hy2).trans M3.out.2.2⟩) ?_
 clear hK K
 refine wpAnyM_one (i:=9) (by kernel_rfl) rfl (fun K hK=>?_)
 refine step_append_lies _ (by rfl) _ _ _ (by rfl) 0 197 i0 _ 3 32 info_subs hi hz0 hz1 hz2 rfl (by omega) _ n (subsC s.subs) (by rfl) ((O2.out.alloc _).drew)
  ⟨w2.heap.size,0,none⟩ 1 1 (subC ⟨id,th,false⟩) (by rfl) (by rfl) (World.news_of_block (cs:=#[.string id,.int .i64 th,.bool false]) (t:=197) (fr:=(0,0)) (heap_alloc_new w2 _)) (by intro x hx;simp [subC] at hx;rcases hx with rfl | rfl | rfl <;> rfl)
  (by omega) (by unfold maxLen;omega) (by omega) (by omega) (w2.heap.size+1) (by simp) ?_
 intro gg cap' wq ownq grq atq ltq
 have hLn:(s.subs ++ [(⟨id,th,false⟩:Sub)]).length=n+1:=by rw [List.length_append,HN.out];rfl
 have hLc:subsC (s.subs ++ [(⟨id,th,false⟩:Sub)])=subsC s.subs++subC ⟨id,th,false⟩:=by rw [subsC_app];simp [subsC]
 have hbw0:Below w.heap.size w ((w2.alloc (.cells #[.string id,.int .i64 th,.bool false] 197)).drew):=Below.drew (HB2.out.alloc (by omega) _)
 have NR:=HRep.out.growSubs (L:=s.subs ++ [(⟨id,th,false⟩:Sub)]) hbw0 H9.out grq (by rw [hLn,hLc];exact ownq) (by simpa using atq) ltq
 rw [hLn] at NR
 have NR1:=Lib.hid NR.1
 have NK1:=Lib.hid NR.2
 have zq:=grq.size
 simp only [World.size_alloc,World.size_drew] at zq
 have bq:=grq.block b (by simp;omega) hob.out
 have mq:wq.cell? ⟨b,9,none⟩=some (.slice A n c):=(World.cell?_of_block (a:=⟨b,9,none⟩) bq).trans ((al _ hbl2).trans M3.out.1)
 have fq:∀ o,wq.frozen? ⟨b,o,none⟩=false:=fun o=>(World.frozen?_of_block bq).trans ((World.frozen?_of_block (Below.heap_alloc w2 _ b hbl2)).trans (FZ2.out o))
 have far:∀ x,w.heap.size≤x→x<w2.heap.size→wq.cell? ⟨x,0,none⟩=w2.cell? ⟨x,0,none⟩:=fun x h1 h2=>(World.cell?_of_block (a:=⟨x,0,none⟩) (grq.block x (by simp;omega) (fun e=>by have:=(OWN.out.lt x e.symm).2;omega))).trans (al _ h2)
 have S9:=And.intro mq (And.intro ((far _ (by omega) hx2).trans M3.out.2.1) ((far _ (by omega) hy2).trans M3.out.2.2))
 clear ownq grq atq bq al kk NR hLn hLc hbw0 far
 refine hK _ _ (fun _=>S9) ?_
 clear hK K
 (refine wpAnyM_tk (i:=10) (v:=?_) rfl (Or.inl ⟨by rfl,?_⟩) S9 ?_;(rotate_left;(intro w hSw;(try dsimp only at hSw);go_simp;try with_reducible rfl));(try simp only [Act.put,List.setIfInBounds_toArray,List.set_cons_zero,List.set_cons_succ]))
 (refine wpAnyM_tk (i:=11) (v:=?_) rfl (Or.inl ⟨by rfl,?_⟩) S9 ?_;(rotate_left;(intro w hSw;(try dsimp only at hSw);go_simp;try with_reducible rfl));(try simp only [Act.put,List.setIfInBounds_toArray,List.set_cons_zero,List.set_cons_succ]))
 clear S9
 refine wpAnyM_one (i:=12) (by kernel_rfl) rfl (fun K hK=>?_)
 go_simp
 refine hK _ _ (fun h=>by cases h) ?_
 clear hK K
 refine wpAnyM_done (by kernel_rfl) ?_ _
 go_wp2_with fail
 refine (HT.out _ _ NR1.out).mono ?_
 rintro e w4 ⟨A',c',rfl,own4,nr4,k4⟩
 have OW4:=Lib.hid (own_mono own4 (show wq.heap.size≤_ by simp only [World.size_setCell];omega))
 have NR4:=Lib.hid nr4
 have K4:=Lib.hid (NK1.out.trans k4 (fun x hx hfx=>hfx.elim (fun h=>h) (fun h=>absurd h.1 (by omega))))
 have z4:=k4.size
 simp only [World.size_setCell] at z4
 clear own4 nr4 k4
 go_wp2_with fail
 go_ret2
 exact ⟨A',c',wq.heap.size,rfl,OW4.out,NR4.out,by omega,z4,K4.out⟩
end Go.Proofs.YtnaebigoknfndaaGreatDoor
namespace Go.Proofs.YtnaebigoknfndaaGreatDoor
open Go Go.RowKit
theorem njoin_arg (b:Nat) (id:ByteArray) (th:Int) (w:World) (ht:th<1∨60<th) :
  Calls Tryz.prog 126 #[.pointer (some ⟨b,0,none⟩),.string id,.int .i64 th] w fun e w'=>e=.returned (.tuple #[.slice none 0 0,.int .i64 1])∧Below w.heap.size w w':=by
 have qa:=alloc_cells
 have qf:=alloc_frozens
 by_cases u1:th<1
 ·have v1:decide (th<1)=true:=by simp;omega
  clear ht
  go_enter Tryz.func126,Tryz.ntmps126
  go_wp2_with fail
  go_ret2
  exact ⟨rfl,(by repeat (first | (with_reducible exact Below.refl _ _) | (with_reducible refine bAl ?_ _) | (with_reducible refine bSc ?_ _) | (with_reducible refine Below.drew ?_) | (refine Below.trans ?_ (by assumption))))⟩
 ·have u2:60<th:=by omega
  have v1:decide (th<1)=false:=by simp;omega
  have v2:decide (60<th)=true:=by simp;omega
  clear ht
  go_enter Tryz.func126,Tryz.ntmps126
  go_wp2_with fail
  go_ret2
  exact ⟨rfl,(by repeat (first | (with_reducible exact Below.refl _ _) | (with_reducible refine bAl ?_ _) | (with_reducible refine bSc ?_ _) | (with_reducible refine Below.drew ?_) | (refine Below.trans ?_ (by assumption))))⟩
theorem njoin_none (b:Nat) (s:NSt) (f:Nat→Prop) (id:ByteArray) (th:Int) (w:World) (h:NRep w b s f) (ok:NOK s) (ht:1≤th∧th≤60) (hid:has s.peers id=false) :
  Calls Tryz.prog 126 #[.pointer (some ⟨b,0,none⟩),.string id,.int .i64 th] w fun e w'=>e=.returned (.tuple #[.slice none 0 0,.int .i64 4])∧Below w.heap.size w w':=by
 have HRep:=Lib.hid h
 have HLv:=Lib.hid (fun w' (h:NRep w' b s f)=>nlevel_ok b s f id w' h ok (levN s id) 4 rfl (by rw [hid];rfl))
 obtain ⟨lvl,hlvl⟩:∃ x,levN s id=x:=⟨_,rfl⟩
 rw [hlvl] at HLv
 obtain ⟨t1,t2⟩:=ht
 have u1:¬ th<1:=by omega
 have u2:¬ 60<th:=by omega
 have v1:decide (th<1)=false:=by simp;omega
 have v2:decide (60<th)=false:=by simp;omega
 clear h ok hid hlvl
 have qa:=alloc_cells
 have qf:=alloc_frozens
 go_enter Tryz.func126,Tryz.ntmps126
 go_wp2_with fail
 refine (HLv.out _ (HRep.out.below (by repeat (first | (with_reducible exact Below.refl _ _) | (with_reducible refine bAl ?_ _) | (with_reducible refine bSc ?_ _) | (with_reducible refine Below.drew ?_) | (refine Below.trans ?_ (by assumption)))))).mono ?_
 rintro e w1 ⟨rfl,hb1⟩
 have HB1:=Lib.hid (show Below w.heap.size w w1 from (by repeat (first | (with_reducible exact Below.refl _ _) | (with_reducible refine bAl ?_ _) | (with_reducible refine bSc ?_ _) | (with_reducible refine Below.drew ?_) | (with_reducible refine bTm ?_ hb1))))
 clear hb1
 go_wp2_with fail
 go_ret2
 exact ⟨rfl,HB1.out⟩
theorem njoin_not (b:Nat) (s:NSt) (f:Nat→Prop) (id:ByteArray) (th:Int) (i e0:Int) (w:World) (h:NRep w b s f) (ok:NOK s) (ht:1≤th∧th≤60) (hid:has s.peers id=true) (hx:idxS (hitS id th) s.subs=i) (hc:(0≤i∧e0=5)∨(i<0∧s.subs.length=8∧e0=10)) :
  Calls Tryz.prog 126 #[.pointer (some ⟨b,0,none⟩),.string id,.int .i64 th] w fun e w'=>e=.returned (.tuple #[.slice none 0 0,.int .i64 e0])∧Below w.heap.size w w':=by
 have HRep:=Lib.hid h
 obtain ⟨A,c,k9,own,hbl,kf⟩:=h.subRow
 have h8:=ok.subs
 have SR:=Lib.hid (srow_own own rfl)
 have HC:=Lib.hid (fun w' b1 b2 (hr:SRow w' A s.subs.length s.subs) h1 h2=>contains_sub A s.subs.length c s.subs id th b1 b2 w' hr (by omega) h1 h2)
 rw [hx] at HC
 have HLv:=Lib.hid (fun w' (h:NRep w' b s f)=>nlevel_ok b s f id w' h ok (levN s id) 0 rfl (by rw [hid];rfl))
 obtain ⟨lvl,hlvl⟩:∃ x,levN s id=x:=⟨_,rfl⟩
 rw [hlvl] at HLv
 obtain ⟨n,hn⟩:∃ n,s.subs.length=n:=⟨_,rfl⟩
 rw [hn] at k9 HC SR hc
 obtain ⟨t1,t2⟩:=ht
 have u1:¬ th<1:=by omega
 have u2:¬ 60<th:=by omega
 have v1:decide (th<1)=false:=by simp;omega
 have v2:decide (60<th)=false:=by simp;omega
 clear h ok own hx hn hid hlvl h8
 have qa:=alloc_cells
 have qf:=alloc_frozens
 rcases hc with ⟨hc,rfl⟩ | ⟨hc,rfl,rfl⟩
 ·have hd:decide (0≤i)=true:=by simp;omega
  go_enter Tryz.func126,Tryz.ntmps126
  go_wp2_with fail
  refine (HLv.out _ (HRep.out.below (by repeat (first | (with_reducible exact Below.refl _ _) | (with_reducible refine bAl ?_ _) | (with_reducible refine bSc ?_ _) | (with_reducible refine Below.drew ?_) | (refine Below.trans ?_ (by assumption)))))).mono ?_
  rintro e w1 ⟨rfl,hb1⟩
  have hbw1:Below w.heap.size w w1:=(by repeat (first | (with_reducible exact Below.refl _ _) | (with_reducible refine bAl ?_ _) | (with_reducible refine bSc ?_ _) | (with_reducible refine Below.drew ?_) | (with_reducible refine bTm ?_ hb1)))
  have x1:w1.cell? ⟨w.heap.size,0,none⟩=some (.string id):=(hb1.cell (p:=⟨w.heap.size,0,none⟩) (by simp;try omega)).trans (by simp [go_sem,↓IntWalk.iteOmega, *])
  have y1:w1.cell? ⟨w.heap.size+1,0,none⟩=some (.int .i64 th):=(hb1.cell (p:=⟨w.heap.size+1,0,none⟩) (by simp;try omega)).trans (by simp [go_sem,↓IntWalk.iteOmega, *])
  have z1:w.heap.size+2≤w1.heap.size:=by have:=hb1.size;simp at this;omega
  have SR1:=Lib.hid (SR.out.below hbw1)
  have c91:=(hbw1.cell (p:=⟨b,9,none⟩) hbl).trans k9
  have HB1:=Lib.hid hbw1
  have XY1:=Lib.hid (And.intro x1 y1)
  clear hb1 hbw1 k9 kf
  go_wp2_with fail
  refine (HC.out w1 w.heap.size (w.heap.size+1) SR1.out XY1.out.1 XY1.out.2).mono ?_
  rintro e w2 ⟨rfl,hb2⟩
  have HB2:=Lib.hid (HB1.out.trans (Below.mono hb2 (by omega)))
  clear hb2
  go_wp2_with fail
  go_ret2
  exact ⟨rfl,HB2.out⟩
 ·have hd:decide (0≤i)=false:=by simp;omega
  have hd2:¬ 0≤i:=by omega
  go_enter Tryz.func126,Tryz.ntmps126
  go_wp2_with fail
  refine (HLv.out _ (HRep.out.below (by repeat (first | (with_reducible exact Below.refl _ _) | (with_reducible refine bAl ?_ _) | (with_reducible refine bSc ?_ _) | (with_reducible refine Below.drew ?_) | (refine Below.trans ?_ (by assumption)))))).mono ?_
  rintro e w1 ⟨rfl,hb1⟩
  have hbw1:Below w.heap.size w w1:=(by repeat (first | (with_reducible exact Below.refl _ _) | (with_reducible refine bAl ?_ _) | (with_reducible refine bSc ?_ _) | (with_reducible refine Below.drew ?_) | (with_reducible refine bTm ?_ hb1)))
  have x1:w1.cell? ⟨w.heap.size,0,none⟩=some (.string id):=(hb1.cell (p:=⟨w.heap.size,0,none⟩) (by simp;try omega)).trans (by simp [go_sem,↓IntWalk.iteOmega, *])
  have y1:w1.cell? ⟨w.heap.size+1,0,none⟩=some (.int .i64 th):=(hb1.cell (p:=⟨w.heap.size+1,0,none⟩) (by simp;try omega)).trans (by simp [go_sem,↓IntWalk.iteOmega, *])
  have z1:w.heap.size+2≤w1.heap.size:=by have:=hb1.size;simp at this;omega
  have SR1:=Lib.hid (SR.out.below hbw1)
  have c91:=(hbw1.cell (p:=⟨b,9,none⟩) hbl).trans k9
  have fz1:∀ o,w1.frozen? ⟨b,o,none⟩=false:=fun o=>(World.frozen?_of_block (hbw1.block b hbl)).trans (kf o)
  have HB1:=Lib.hid hbw1
  have XY1:=Lib.hid (And.intro x1 y1)
  clear hb1 hbw1 k9 kf
  go_wp2_with fail
  refine (HC.out w1 w.heap.size (w.heap.size+1) SR1.out XY1.out.1 XY1.out.2).mono ?_
  rintro e w2 ⟨rfl,hb2⟩
  have hbl1:b<w1.heap.size:=by omega
  have c92:=(hb2.cell (p:=⟨b,9,none⟩) hbl1).trans c91
  have HB2:=Lib.hid (HB1.out.trans (Below.mono hb2 (by omega)))
  clear hb2
  go_wp2_with fail
  go_ret2
  exact ⟨rfl,HB2.out⟩
end Go.Proofs.YtnaebigoknfndaaGreatDoor
namespace Go.Proofs.YtnaebigoknfndaaGreatDoor
open Go Go.RowKit
theorem own_base0 {w:World} {base e s n:Nat} {A:Option Addr} {c:Nat} {xs:List Value} (h:w.ownsRow base e s (.slice A n c) n xs):A=none∧n=0∨∃ g,A=some ⟨g,0,none⟩:=by
 rcases h.2 with ⟨he,h0⟩ | ⟨g,c',cur,he,_⟩
 ·cases he;exact .inl ⟨rfl,h0⟩
 ·cases he;exact .inr ⟨g,rfl⟩
end Go.Proofs.YtnaebigoknfndaaGreatDoor
namespace Go.Proofs.YtnaebigoknfndaaGreatDoor
open Go Go.RowKit
def nA:ByteArray:=⟨#[97]⟩
def nB:ByteArray:=⟨#[98]⟩
def nC:ByteArray:=⟨#[99]⟩
def nD:ByteArray:=⟨#[100]⟩
def tickS (s:NSt) (g:Int):NSt:={ s with now:=s.now+g,seq:=(s.now+g) / s.every }
def tellS (s:NSt):NSt:={ s with subs:=toldS s }
def dropQ (s:NSt):NSt:={ s with drops:=more s.drops }
def hearQ (s:NSt) (id:ByteArray) (q:Int):NSt:={ s with peers:=hearS s.peers id 0 q s.now }
def partQ (s:NSt) (k:Nat):NSt:={ s with subs:=s.subs.eraseIdx k }
def tickF (s:NSt) (g:Int):NSt×List Note:=(tellS (tickS s g),toldN (tickS s g))
def newB (s:NSt) (id:ByteArray) (q:Int):Bool:=newer (s.peers.getD (pos s.peers id) default) 0 q
def hearF (s:NSt) (id:ByteArray) (q:Int):NSt×List Note:=
 if has s.peers id=true then
  if newB s id q=true then (tellS (hearQ s id q),toldN (hearQ s id q))
  else (dropQ (hearQ s id q),[])
 else (dropQ s,[])
def joinF (s:NSt) (id:ByteArray) (th:Int):NSt×List Note:=
 if has s.peers id=true∧idxS (hitS id th) s.subs = -1∧s.subs.length<8 then (tellS (joinS s id th),toldN (joinS s id th))
 else (s,[])
inductive Ask (s:NSt) (a0:Int) (id:ByteArray):NSt→List Note→Prop
 | tick (g:Int) (h:a0=0) (hg:1≤g∧g≤60):Ask s a0 id (tellS (tickS s g)) (toldN (tickS s g))
 | new (q:Int) (h:a0=1) (hq:1≤q∧q≤30) (hh:has s.peers id=true) (hn:newer (s.peers.getD (pos s.peers id) default) 0 q=true):Ask s a0 id (tellS (hearQ s id q)) (toldN (hearQ s id q))
 | old (q:Int) (h:a0=1) (hq:1≤q∧q≤30) (hh:has s.peers id=true) (hn:newer (s.peers.getD (pos s.peers id) default) 0 q=false):Ask s a0 id (dropQ (hearQ s id q)) []
 | drop (h:a0=1∨¬ (a0=0∨a0=2∨a0=3)):Ask s a0 id (dropQ s) []
 | join (th:Int) (h:a0=2) (ht:1≤th∧th≤12) (hh:has s.peers id=true) (hx:idxS (hitS id th) s.subs = -1) (h8:s.subs.length<8):Ask s a0 id (tellS (joinS s id th)) (toldN (joinS s id th))
 | part (k:Nat) (h:a0=3):Ask s a0 id (partQ s k) []
 | same (h:a0=2∨a0=3):Ask s a0 id s []
theorem lev_none {s:NSt} {id:ByteArray} (h:has s.peers id=false):levN s id=0:=by unfold levN;rw [h];rfl
theorem lev_some {s:NSt} {id:ByteArray} (h:has s.peers id=true):levN s id=lvP s.least s.now (s.peers.getD (pos s.peers id) default):=by unfold levN;rw [if_pos h]
theorem lev_bd {s:NSt} (ok:NOK s) (id:ByteArray):0≤levN s id∧levN s id≤126:=by
 cases h:has s.peers id with
 | false=>rw [lev_none h];omega
 | true=>
  rw [lev_some h]
  obtain ⟨h1,h2,h3⟩:=ok.at (has_lt h)
  have hn:=ok.now
  have hl:=h1.last
  exact lv_bd h2 (by have:=h1.win.2.1;have:=h1.win.2.2.1;omega) h1.win.2.2.2 ok.least (by omega)
structure APre (E L T:Int) (s:NSt):Prop where
 ok:NOK s
 id:s.id=nA
 inc:s.inc=0
 every:s.every=E
 cap:s.cap=4
 least:s.least=L
 seq:s.seq=s.now / E
 ids:s.peers.map (·.id) = [nB,nC,nD]
 each:∀ p∈s.peers,p.inc=0∧p.cap=4
 now:s.now≤T
 drops:s.drops≤T
 subs:∀ u∈s.subs,has s.peers u.id=true∧1≤u.theta∧u.theta≤12
 dist:s.subs.Pairwise (fun u v=>¬ (u.id=v.id∧u.theta=v.theta))
structure AOK (E L T:Int) (s:NSt):Prop where
 pre:APre E L T s
 on:∀ u∈s.subs,u.on=onOf s u
theorem NOK.tell {s:NSt} (h:NOK s):NOK (tellS s):=⟨h.id,h.inc,h.every,h.cap,h.least,h.now,h.seq,h.drops,h.tab,h.wins,by show (toldS s).length≤8;unfold toldS;rw [List.length_map];exact h.subs⟩
theorem seq_le {n E:Int} (h0:0≤n) (hE:1≤E):0≤n / E∧n / E≤n:=⟨Int.ediv_nonneg h0 (by omega),Int.ediv_le_self _ h0⟩
theorem more_bd {d:Int} (h:0≤d):0≤more d∧more d≤1073741824∧more d≤d+1:=by unfold more;omega
theorem bok {id:ByteArray} {q:Int} (hid:IdOK (byts id)) (hq:1≤q∧q≤30):BOK (byts id) 0 q.toNat:=⟨hid,by omega,by omega,by omega⟩
end Go.Proofs.YtnaebigoknfndaaGreatDoor
namespace Go.Proofs.YtnaebigoknfndaaGreatDoor
open Go Go.RowKit
theorem own_nil (w:World) (m t:Nat):w.ownsRow m t 3 (.slice none 0 0) 0 []:=World.ownsRow_nil _ _ _ _
theorem ext_lt {f:Nat→Prop} {a z n:Nat} (h:∀ x,f x→x<n) (hz:z≤n):∀ x,ext f a z x→x<n:=fun x hx=>by
 rcases hx with hx | hx
 ·exact h x hx
 ·omega
theorem ahear {b:Nat} {s:NSt} {f:Nat→Prop} {id:ByteArray} {q:Int} (w:World) (h:NRep w b s f) (ok:NOK s) (hid:IdOK (byts id)) (hq:1≤q∧q<2147483648) :
  Calls Tryz.prog 123 #[.pointer (some ⟨b,0,none⟩),.string (mkB (encL (byts id) 0 q.toNat))] w fun e w'=>∃ A' c' m e0,e=.returned (.tuple #[.slice A' (hearF s id q).2.length c',.int .i64 e0]) ∧
   w'.ownsRow m 155 3 (.slice A' (hearF s id q).2.length c') (hearF s id q).2.length (notesC (hearF s id q).2)∧NRep w' b (hearF s id q).1 (ext f w.heap.size m)∧w.heap.size≤m∧m≤w'.heap.size∧Kept f w w' ∧
   (has s.peers id=true→newB s id q=true→e0=0)∧(has s.peers id=true→newB s id q=false→e0=5)∧(has s.peers id=false→(e0 != 0)=true):=by
 have hbk:BOK (byts id) 0 q.toNat:=⟨hid,by omega,by omega,by omega⟩
 have eq:((q.toNat:Nat):Int)=q:=by omega
 have hfl:=h.lt
 have me:∀ {w':World},Kept f w w'→∀ x,ext f w.heap.size w.heap.size x→x<w'.heap.size:=fun k x hx=>by
  have:=ext_lt (a:=w.heap.size) hfl (Nat.le_refl _) x hx
  have:=k.size
  omega
 cases hh:has s.peers id with
 | false=>
  have e0:hearF s id q=(dropQ s,[]):=by unfold hearF;rw [if_neg (by rw [hh];simp)]
  rw [e0]
  refine (nhear_none b s f id 0 q.toNat w h ok hbk hh).mono ?_
  rintro e w' ⟨⟨k,hk,rfl⟩,rep,kept⟩
  exact ⟨none,0,w.heap.size,k,rfl,own_nil _ _ _,rep.imp (fun x hx=>.inl hx) (me kept),Nat.le_refl _,kept.size,kept,(fun h=>by cases h),(fun h=>by cases h),fun _=>hk⟩
 | true=>
  cases hn:newB s id q with
  | true=>
   have e0:hearF s id q=(tellS (hearQ s id q),toldN (hearQ s id q)):=by unfold hearF;rw [if_pos hh,if_pos hn]
   rw [e0]
   refine (nhear_new b s f id 0 q.toNat w h ok hbk hh (by rw [eq];exact hn)).mono ?_
   rintro e w' ⟨t,A',c',m,ht,rfl,own,rep,hm,hm2,kept⟩
   rw [eq] at ht
   have ht':t=hearQ s id q:=ht
   subst ht'
   exact ⟨A',c',m,0,rfl,own,rep,hm,hm2,kept,fun _ _=>rfl,(fun _ h=>by cases h),(fun h=>by cases h)⟩
  | false=>
   have e0:hearF s id q=(dropQ (hearQ s id q),[]):=by unfold hearF;rw [if_pos hh,if_neg (by rw [hn];simp)]
   rw [e0]
   refine (nhear_old b s f id 0 q.toNat w h ok hbk hh (by rw [eq];exact hn)).mono ?_
   rintro e w' ⟨rfl,⟨m,rep⟩,kept⟩
   rw [eq] at rep
   have hl:=rep.lt
   have hz:=kept.size
   refine ⟨none,0,w'.heap.size,5,rfl,own_nil _ _ _,rep.imp (fun x hx=>?_) (fun x hx=>?_),hz,Nat.le_refl _,kept,(fun _ h=>by cases h),fun _ _=>rfl,(fun h=>by cases h)⟩
   ·rcases hx with hx | hx
    ·exact .inl hx
    ·exact .inr ⟨hx.1,hl x (.inr hx)⟩
   ·rcases hx with hx | hx
    ·have:=hfl x hx;omega
    ·exact hx.2
theorem idx_ge (p:Sub→Bool) (L:List Sub):idxS p L = -1∨(0≤idxS p L∧(idxS p L).toNat<L.length):=by
 unfold idxS
 split
 ·rename_i h
  right
  refine ⟨by omega,?_⟩
  obtain ⟨u,hu,hp⟩:=List.any_eq_true.1 h
  have:=List.findIdx_lt_length_of_exists ⟨u,hu,hp⟩
  omega
 ·exact .inl rfl
theorem ajoin {b:Nat} {s:NSt} {f:Nat→Prop} {id:ByteArray} {th:Int} (w:World) (h:NRep w b s f) (ok:NOK s) (ht:1≤th∧th≤60) :
  Calls Tryz.prog 126 #[.pointer (some ⟨b,0,none⟩),.string id,.int .i64 th] w fun e w'=>∃ A' c' m e0,e=.returned (.tuple #[.slice A' (joinF s id th).2.length c',.int .i64 e0]) ∧
   w'.ownsRow m 155 3 (.slice A' (joinF s id th).2.length c') (joinF s id th).2.length (notesC (joinF s id th).2)∧NRep w' b (joinF s id th).1 (ext f w.heap.size m)∧w.heap.size≤m∧m≤w'.heap.size∧Kept f w w' ∧
   (e0=if has s.peers id=true then (if 0≤idxS (hitS id th) s.subs then 5 else if s.subs.length<8 then 0 else 10) else 4):=by
 have hfl:=h.lt
 have same:∀ {w':World},Below w.heap.size w w'→NRep w' b s (ext f w.heap.size w.heap.size)∧Kept f w w':=fun hb=>by
  have hz:=hb.size
  exact ⟨(h.below hb).imp (fun x hx=>.inl hx) (fun x hx=>by have:=ext_lt (a:=w.heap.size) hfl (Nat.le_refl _) x hx;omega),Kept.of_below hb⟩
 have h8:=ok.subs
 cases hh:has s.peers id with
 | false=>
  have e0:joinF s id th=(s,[]):=by unfold joinF;rw [if_neg (by rw [hh];simp)]
  rw [e0]
  refine (njoin_none b s f id th w h ok ht hh).mono ?_
  rintro e w' ⟨rfl,hb⟩
  exact ⟨none,0,w.heap.size,4,rfl,own_nil _ _ _,(same hb).1,Nat.le_refl _,hb.size,(same hb).2,rfl⟩
 | true=>
  rcases idx_ge (hitS id th) s.subs with hx | hx
  ·by_cases hl:s.subs.length<8
   ·have e0:joinF s id th=(tellS (joinS s id th),toldN (joinS s id th)):=by unfold joinF;rw [if_pos ⟨hh,hx,hl⟩]
    rw [e0]
    refine (njoin_ok b s f id th w h ok ht hh hx hl).mono ?_
    rintro e w' ⟨A',c',m,rfl,own,rep,hm,hm2,kept⟩
    exact ⟨A',c',m,0,rfl,own,rep,hm,hm2,kept,by rw [hx,if_pos rfl,if_neg (by omega),if_pos hl]⟩
   ·have e0:joinF s id th=(s,[]):=by unfold joinF;rw [if_neg (fun hc=>hl hc.2.2)]
    rw [e0]
    refine (njoin_not b s f id th _ 10 w h ok ht hh rfl (.inr ⟨by omega,by omega,rfl⟩)).mono ?_
    rintro e w' ⟨rfl,hb⟩
    exact ⟨none,0,w.heap.size,10,rfl,own_nil _ _ _,(same hb).1,Nat.le_refl _,hb.size,(same hb).2,by rw [hx,if_pos rfl,if_neg (by omega),if_neg hl]⟩
  ·have e0:joinF s id th=(s,[]):=by unfold joinF;rw [if_neg (fun hc=>by have:=hc.2.1;omega)]
   rw [e0]
   refine (njoin_not b s f id th _ 5 w h ok ht hh rfl (.inl ⟨hx.1,rfl⟩)).mono ?_
   rintro e w' ⟨rfl,hb⟩
   exact ⟨none,0,w.heap.size,5,rfl,own_nil _ _ _,(same hb).1,Nat.le_refl _,hb.size,(same hb).2,by rw [if_pos rfl,if_pos hx.1]⟩
end Go.Proofs.YtnaebigoknfndaaGreatDoor
namespace Go.Proofs.YtnaebigoknfndaaGreatDoor
open Go Go.RowKit
theorem NRep.at' {w:World} {b:Nat} {s:NSt} {f:Nat→Prop} (h:NRep w b s f):∃ P S,NodeAt w b s.id s.inc s.every s.cap s.least s.now s.seq s.drops P S:=by
 obtain ⟨A,n,c,S,h1,_⟩:=h
 exact ⟨_,_,h1⟩
theorem has_not {L:List Peer} {id:ByteArray} (h:∀ q∈L,sl q.id id=true):has L id=false:=by
 cases hc:has L id with
 | false=>rfl
 | true=>
  have h1:=has_lt hc
  have h2:=has_id hc
  have hm:L.getD (pos L id) default∈L:=by
   rw [List.getD_eq_getElem?_getD,List.getElem?_eq_getElem h1];exact List.getElem_mem _
  have:=h _ hm
  rw [h2,sl_irr] at this
  cases this
end Go.Proofs.YtnaebigoknfndaaGreatDoor
namespace Go.Proofs.YtnaebigoknfndaaGreatDoor
open Go Go.RowKit
end Go.Proofs.YtnaebigoknfndaaGreatDoor
namespace Go.Proofs.YtnaebigoknfndaaGreatDoor
open Go Go.RowKit
instance:Inhabited Note:=⟨⟨⟨#[]⟩,0,false⟩⟩
def NoteAt (w:World) (b o:Nat) (x:Note):Prop:=
 w.cell? ⟨b,o,none⟩=some (.string x.id)∧w.cell? ⟨b,o+1,none⟩=some (.int .i64 x.theta)∧w.cell? ⟨b,o+2,none⟩=some (.bool x.sus)
theorem notesC_get:∀ (L:List Note) (k i:Nat),k<L.length→i<3→(notesC L)[k * 3+i]? = (noteC (L.getD k default))[i]?
 | [],k,i,h,_=>by simp at h
 | s :: L,0,i,_,hi=>by
   show (noteC s++notesC L)[0 * 3+i]? = _
   rw [List.getElem?_append_left (by simp [noteC];omega)]
   simp
 | s :: L,k+1,i,h,hi=>by
   show (noteC s++notesC L)[(k+1) * 3+i]? = _
   rw [List.getElem?_append_right (by simp [noteC];omega),show (k+1) * 3+i - (noteC s).length=k * 3+i by simp [noteC];omega,notesC_get L k i (by simpa using h) hi]
   simp
def NoteRow (w:World) (A:Option Addr) (n:Nat) (L:List Note):Prop:=
 L.length=n∧(0<n→∃ b off,A=some ⟨b,off,none⟩∧b<w.heap.size∧∀ k,k<n→NoteAt w b (off+k * 3) (L.getD k default))
theorem NoteRow.at {w:World} {A:Option Addr} {n:Nat} {L:List Note} (h:NoteRow w A n L) {k:Nat} (hk:k<n):∃ b off,A=some ⟨b,off,none⟩∧b<w.heap.size∧NoteAt w b (off+k * 3) (L.getD k default):=by
 obtain ⟨b,off,hA,lb,hp⟩:=h.2 (by omega)
 exact ⟨b,off,hA,lb,hp k hk⟩
theorem noteRow_own {w:World} {base n c:Nat} {A:Option Addr} {L:List Note} (h:w.ownsRow base 155 3 (.slice A n c) n (notesC L)) (hn:L.length=n):NoteRow w A n L:=by
 refine ⟨hn,fun h0=>?_⟩
 have h4:=h
 rcases h.2 with ⟨_,h0'⟩ | ⟨g,c',cur,he,_,hg,hnc,hcm,hcs,htk⟩
 ·omega
 simp only [Value.slice.injEq] at he
 obtain ⟨rfl,_,rfl⟩:=he
 refine ⟨g,0,rfl,(Array.getElem?_eq_some_iff.1 hg).1,fun k hk=>?_⟩
 have cell:∀ i,i<3→w.cell? ⟨g,0+k * 3+i,none⟩=(noteC (L.getD k default))[i]?:=fun i hi=>by
  have hs:=notesC_get L k i (by omega) hi
  have hi':i<(noteC (L.getD k default)).length:=by simpa [noteC] using hi
  have:=h4.cells (g:=g) rfl (k * 3+i) ((noteC (L.getD k default))[i]) (by rw [hs,List.getElem?_eq_getElem hi'])
  rw [Go.WideShapes.add_plain,Nat.zero_add] at this
  rw [Nat.zero_add,this,List.getElem?_eq_getElem hi']
 exact ⟨cell 0 (by omega),cell 1 (by omega),cell 2 (by omega)⟩
end Go.Proofs.YtnaebigoknfndaaGreatDoor
namespace Go.Proofs.YtnaebigoknfndaaGreatDoor
open Go Go.RowKit
def TRow (w:World) (A:Option Addr) (n:Nat) (L:List ByteArray):Prop:=
 L.length=n∧(0<n→∃ b off,A=some ⟨b,off,none⟩∧b<w.heap.size∧∀ k,k<n→w.cell? ⟨b,off+k,none⟩=some (.string (L.getD k ⟨#[]⟩)))
theorem TRow.at {w:World} {A:Option Addr} {n:Nat} {L:List ByteArray} (h:TRow w A n L) {k:Nat} (hk:k<n):∃ b off,A=some ⟨b,off,none⟩∧b<w.heap.size∧w.cell? ⟨b,off+k,none⟩=some (.string (L.getD k ⟨#[]⟩)):=by
 obtain ⟨b,off,hA,lb,hp⟩:=h.2 (by omega)
 exact ⟨b,off,hA,lb,hp k hk⟩
theorem trow_own {w:World} {base n c:Nat} {A:Option Addr} {L:List ByteArray} (h:w.ownsRow base 9 1 (.slice A n c) n (L.map Value.string)):TRow w A n L:=by
 have hn:L.length=n:=by have:=h.1;simpa using this
 refine ⟨hn,fun h0=>?_⟩
 have h4:=h
 rcases h.2 with ⟨_,h0'⟩ | ⟨g,c',cur,he,_,hg,hnc,hcm,hcs,htk⟩
 ·omega
 simp only [Value.slice.injEq] at he
 obtain ⟨rfl,_,rfl⟩:=he
 refine ⟨g,0,rfl,(Array.getElem?_eq_some_iff.1 hg).1,fun k hk=>?_⟩
 have:=h4.cells (g:=g) rfl k (.string (L.getD k ⟨#[]⟩)) (by rw [List.getElem?_map,List.getElem?_eq_getElem (by omega),List.getD_eq_getElem?_getD,List.getElem?_eq_getElem (by omega)];rfl)
 rw [Go.WideShapes.add_plain,Nat.zero_add] at this
 rw [Nat.zero_add]
 exact this
theorem strs_one (L:List ByteArray):∀ u∈L.map Value.string,u.oneCell'=true:=by
 intro u hu
 obtain ⟨s,_,rfl⟩:=List.mem_map.1 hu
 rfl
def sentB (id:ByteArray) (inc seq m:Nat):List ByteArray:=(List.range m).map fun j=>mkB (encL (byts id) inc (seq+1+j))
theorem sent_map (id:ByteArray) (inc seq m:Nat):sent id inc seq m=(sentB id inc seq m).map Value.string:=by unfold sent sentB;rw [List.map_map];rfl
theorem sentB_len (id:ByteArray) (inc seq m:Nat):(sentB id inc seq m).length=m:=by simp [sentB]
end Go.Proofs.YtnaebigoknfndaaGreatDoor
namespace Go.Proofs.YtnaebigoknfndaaGreatDoor
open Go Go.RowKit
structure TSt where
 n:Nat
 nd:Nat→NSt
 dead:Nat→Bool
 way:List ByteArray
def TRepC (w:World) (t:Nat) (S:TSt) (f:Nat→Prop) (c:Nat→Nat) (ga gn gd ca cn cd:Nat) (wv:Value) (bs:Nat→Nat):Prop:=
 w.heap[t]? = some (.cells #[.slice (some ⟨ga,0,none⟩) S.n ca,.slice (some ⟨gn,0,none⟩) S.n cn,.slice (some ⟨gd,0,none⟩) S.n cd,wv] 147 (0,0)) ∧
 (∀ i,i<S.n→w.cell? ⟨ga,i * 5+2,none⟩=some (.int .i64 (S.nd i).every))∧(∀ i,i<S.n→w.cell? ⟨gn,i,none⟩=some (.pointer (some ⟨bs i,0,none⟩)))∧(∀ i,i<S.n→w.cell? ⟨gd,i,none⟩=some (.bool (S.dead i)))∧(∀ o,w.frozen? ⟨gd,o,none⟩=false) ∧
 w.ownsRow 0 9 1 wv S.way.length (S.way.map Value.string)∧(∀ i,i<S.n→NRep w (bs i) (S.nd i) (fun x=>f x∧c x=i+5)) ∧
 (f t∧f ga∧f gn∧f gd)∧(c t=0∧c ga=1∧c gn=2∧c gd=3)∧(∀ g,wv.ownBlock=some g→f g∧c g=4)∧(∀ x,f x→x<w.heap.size)∧S.n≤ca∧S.n≤cn∧S.n≤cd
def TRep (w:World) (t:Nat) (S:TSt) (f:Nat→Prop):Prop:=∃ c ga gn gd ca cn cd wv bs,TRepC w t S f c ga gn gd ca cn cd wv bs
variable {w w1:World} {t ga gn gd ca cn cd:Nat} {S:TSt} {f:Nat→Prop} {c:Nat→Nat} {wv:Value} {bs:Nat→Nat}
theorem TRepC.lt (h:TRepC w t S f c ga gn gd ca cn cd wv bs):∀ x,f x→x<w.heap.size:=by obtain ⟨_,_,_,_,_,_,_,_,_,_,h,_⟩:=h;exact h
theorem TRep.lt (h:TRep w t S f):∀ x,f x→x<w.heap.size:=by obtain ⟨_,_,_,_,_,_,_,_,_,h⟩:=h;exact h.lt
theorem TRepC.ft (h:TRepC w t S f c ga gn gd ca cn cd wv bs):f t:=by obtain ⟨_,_,_,_,_,_,_,h,_⟩:=h;exact h.1
theorem TRep.ft (h:TRep w t S f):f t:=by obtain ⟨_,_,_,_,_,_,_,_,_,h⟩:=h;exact h.ft
theorem TRepC.cells (h:TRepC w t S f c ga gn gd ca cn cd wv bs):w.cell? ⟨t,0,none⟩=some (.slice (some ⟨ga,0,none⟩) S.n ca)∧w.cell? ⟨t,1,none⟩=some (.slice (some ⟨gn,0,none⟩) S.n cn)∧w.cell? ⟨t,2,none⟩=some (.slice (some ⟨gd,0,none⟩) S.n cd)∧w.cell? ⟨t,3,none⟩=some wv∧∀ o,w.frozen? ⟨t,o,none⟩=false:=by
 have e:=fun o=>cell_of_row (w:=w) t o _ _ _ h.1
 exact ⟨by rw [e];rfl,by rw [e];rfl,by rw [e];rfl,by rw [e];rfl,(block_cells h.1).2⟩
theorem TRepC.same (h:TRepC w t S f c ga gn gd ca cn cd wv bs) (hs:Same f w w1):TRepC w1 t S f c ga gn gd ca cn cd wv bs:=by
 have hl:=h.lt
 obtain ⟨h1,h2,h3,h4,h5,h6,h7,h8,h9,h10,h11,h12⟩:=h
 have blk:∀ x,f x→w1.heap[x]? = w.heap[x]?:=fun x hx=>hs.2 x (hl x hx) hx
 exact ⟨(blk t h8.1).trans h1,fun i hi=>(World.cell?_of_block (a:=⟨ga,i * 5+2,none⟩) (blk ga h8.2.1)).trans (h2 i hi),fun i hi=>(World.cell?_of_block (a:=⟨gn,i,none⟩) (blk gn h8.2.2.1)).trans (h3 i hi),fun i hi=>(World.cell?_of_block (a:=⟨gd,i,none⟩) (blk gd h8.2.2.2)).trans (h4 i hi),
  fun o=>(World.frozen?_of_block (blk gd h8.2.2.2)).trans (h5 o),own_same h6 (fun g hg=>(h10 g hg).1) hs,fun i hi=>(h7 i hi).same ⟨hs.1,fun x hx hfx=>hs.2 x hx hfx.1⟩,h8,h9,h10,fun x hx=>Nat.lt_of_lt_of_le (hl x hx) hs.1,h12⟩
theorem TRep.same (h:TRep w t S f) (hs:Same f w w1):TRep w1 t S f:=by
 obtain ⟨c,ga,gn,gd,ca,cn,cd,wv,bs,h⟩:=h
 exact ⟨c,ga,gn,gd,ca,cn,cd,wv,bs,h.same hs⟩
theorem TRepC.below (h:TRepC w t S f c ga gn gd ca cn cd wv bs) (hb:Below w.heap.size w w1):TRepC w1 t S f c ga gn gd ca cn cd wv bs:=h.same (Same.of_below hb)
def setN (S:TSt) (i:Nat) (s:NSt):TSt:={ S with nd:=fun j=>if j=i then s else S.nd j }
theorem TRepC.node (h:TRepC w t S f c ga gn gd ca cn cd wv bs) {i M:Nat} (hi:i<S.n) {s:NSt} {g:Nat→Prop} (hr:NRep w1 (bs i) s g) (hM:w.heap.size≤M∧M≤w1.heap.size) (hg:∀ x,g x→(f x∧c x=i+5)∨(w.heap.size≤x∧x<M)) (hk:Kept (fun x=>f x∧c x=i+5) w w1) (he:s.every=(S.nd i).every) :
  TRepC w1 t (setN S i s) (ext f w.heap.size M) (fun x=>if w.heap.size≤x then i+5 else c x) ga gn gd ca cn cd wv bs∧Kept f w w1:=by
 have hl:=h.lt
 obtain ⟨h1,h2,h3,h4,h5,h6,h7,h8,h9,h10,h11,h12⟩:=h
 have blk:∀ x,f x→c x≠i+5→w1.heap[x]? = w.heap[x]?:=fun x hx hc=>hk.block x (hl x hx) (fun e=>hc e.2)
 have col:∀ x,f x→(if w.heap.size≤x then i+5 else c x)=c x:=fun x hx=>if_neg (by have:=hl x hx;omega)
 have hz:=hk.size
 refine ⟨⟨(blk t h8.1 (by omega)).trans h1,fun j hj=>?_,fun j hj=>(World.cell?_of_block (a:=⟨gn,j,none⟩) (blk gn h8.2.2.1 (by omega))).trans (h3 j hj),fun j hj=>(World.cell?_of_block (a:=⟨gd,j,none⟩) (blk gd h8.2.2.2 (by omega))).trans (h4 j hj),
  fun o=>(World.frozen?_of_block (blk gd h8.2.2.2 (by omega))).trans (h5 o),own_same (f:=fun x=>f x∧c x=4) h6 h10 ⟨hz,fun x hx hfx=>blk x hfx.1 (by omega)⟩,fun j hj=>?_,⟨.inl h8.1,.inl h8.2.1,.inl h8.2.2.1,.inl h8.2.2.2⟩,⟨(col t h8.1).trans h9.1,(col ga h8.2.1).trans h9.2.1,(col gn h8.2.2.1).trans h9.2.2.1,(col gd h8.2.2.2).trans h9.2.2.2⟩,
  fun x hx=>⟨.inl (h10 x hx).1,(col x (h10 x hx).1).trans (h10 x hx).2⟩,ext_lt (fun x hx=>Nat.lt_of_lt_of_le (hl x hx) hz) hM.2,h12⟩,⟨hk.os,hk.tape,hk.output,hz,fun x hx hfx=>hk.block x hx (fun e=>hfx e.1)⟩⟩
 ·show w1.cell? _=some (.int .i64 (if j=i then s else S.nd j).every)
  rw [show (if j=i then s else S.nd j).every=(S.nd j).every by split;(rename_i e;rw [e,he]);rfl]
  exact (World.cell?_of_block (a:=⟨ga,j * 5+2,none⟩) (blk ga h8.2.1 (by omega))).trans (h2 j hj)
 ·show NRep w1 (bs j) (if j=i then s else S.nd j) _
  by_cases e:j=i
  ·subst e
   rw [if_pos rfl]
   refine hr.imp (fun x hx=>?_) (fun x hx=>ext_lt (fun x hx=>Nat.lt_of_lt_of_le (hl x hx) hz) hM.2 x hx.1)
   rcases hg x hx with hx | hx
   ·exact ⟨.inl hx.1,(col x hx.1).trans hx.2⟩
   ·exact ⟨.inr hx,if_pos hx.1⟩
  ·rw [if_neg e]
   refine ((h7 j hj).same ⟨hz,fun x hx hfx=>blk x hfx.1 (by omega)⟩).imp (fun x hx=>⟨.inl hx.1,(col x hx.1).trans hx.2⟩) (fun x hx=>ext_lt (fun x hx=>Nat.lt_of_lt_of_le (hl x hx) hz) hM.2 x hx.1)
theorem town_set {v0 v1 v2 v3:Value} {T:TypeId} (h:w.heap[t]? = some (.cells #[v0,v1,v2,v3] T (0,0))) (v:Value):(w.setCell ⟨t,3,none⟩ v).heap[t]? = some (.cells #[v0,v1,v2,v] T (0,0)):=by
 simp [World.setCell,Array.getElem?_modify,h]
def wayN (S:TSt) (L:List ByteArray):TSt:={ S with way:=L }
theorem TRepC.setWay (h:TRepC w t S f c ga gn gd ca cn cd wv bs) {L:List ByteArray} {v:Value} {M:Nat} (hs:Same (fun x=>f x∧c x≠4) w w1) (hM:w.heap.size≤M∧M≤w1.heap.size) (ho:w1.ownsRow 0 9 1 v L.length (L.map Value.string)) (hv:∀ g,v.ownBlock=some g→wv.ownBlock=some g∨(w.heap.size≤g∧g<M)) :
  TRepC (w1.setCell ⟨t,3,none⟩ v) t (wayN S L) (ext f w.heap.size M) (fun x=>if w.heap.size≤x then 4 else c x) ga gn gd ca cn cd v bs:=by
 have hl:=h.lt
 obtain ⟨h1,h2,h3,h4,h5,h6,h7,h8,h9,h10,h11,h12⟩:=h
 have hz:=hs.1
 have blk:∀ x,f x→c x≠4→w1.heap[x]? = w.heap[x]?:=fun x hx hc=>hs.2 x (hl x hx) ⟨hx,hc⟩
 have blk2:∀ x,f x→c x≠4→x≠t→(w1.setCell ⟨t,3,none⟩ v).heap[x]? = w.heap[x]?:=fun x hx hc hne=>(Below.heap_setCell _ _ _ _ (fun e=>hne e)).trans (blk x hx hc)
 have col:∀ x,f x→(if w.heap.size≤x then 4 else c x)=c x:=fun x hx=>if_neg (by have:=hl x hx;omega)
 have tne:∀ x,f x→c x≠0→x≠t:=fun x _ hc e=>hc (by rw [e];exact h9.1)
 have hvt:v.ownBlock≠some t:=fun e=>by
  rcases hv t e with h | h
  ·have:=(h10 t h).2;omega
  ·have:=hl t h8.1;omega
 refine ⟨town_set ((blk t h8.1 (by omega)).trans h1) v,fun j hj=>(World.cell?_of_block (a:=⟨ga,j * 5+2,none⟩) (blk2 ga h8.2.1 (by omega) (tne _ h8.2.1 (by omega)))).trans (h2 j hj),fun j hj=>(World.cell?_of_block (a:=⟨gn,j,none⟩) (blk2 gn h8.2.2.1 (by omega) (tne _ h8.2.2.1 (by omega)))).trans (h3 j hj),
  fun j hj=>(World.cell?_of_block (a:=⟨gd,j,none⟩) (blk2 gd h8.2.2.2 (by omega) (tne _ h8.2.2.2 (by omega)))).trans (h4 j hj),fun o=>(World.frozen?_of_block (blk2 gd h8.2.2.2 (by omega) (tne _ h8.2.2.2 (by omega)))).trans (h5 o),own_elsewhere ho hvt _ _,fun j hj=>?_,
  ⟨.inl h8.1,.inl h8.2.1,.inl h8.2.2.1,.inl h8.2.2.2⟩,⟨(col t h8.1).trans h9.1,(col ga h8.2.1).trans h9.2.1,(col gn h8.2.2.1).trans h9.2.2.1,(col gd h8.2.2.2).trans h9.2.2.2⟩,fun x hx=>?_,fun x hx=>?_,h12⟩
 ·refine ((h7 j hj).same ⟨by simpa using hz,fun x hx hfx=>blk2 x hfx.1 (by omega) (tne x hfx.1 (by omega))⟩).imp (fun x hx=>⟨.inl hx.1,(col x hx.1).trans hx.2⟩) (fun x hx=>?_)
  have:=ext_lt (fun x hx=>Nat.lt_of_lt_of_le (hl x hx) hz) hM.2 x hx.1
  simpa using this
 ·rcases hv x hx with h | h
  ·exact ⟨.inl (h10 x h).1,(col x (h10 x h).1).trans (h10 x h).2⟩
  ·exact ⟨.inr h,if_pos h.1⟩
 ·have:=ext_lt (fun x hx=>Nat.lt_of_lt_of_le (hl x hx) hz) hM.2 x hx
  simpa using this
def stopN (S:TSt) (i:Nat):TSt:={ S with dead:=fun j=>if j=i then true else S.dead j }
theorem TRepC.stop (h:TRepC w t S f c ga gn gd ca cn cd wv bs) {i:Nat} (hi:i<S.n):TRepC (w.setCell ⟨gd,i,none⟩ (.bool true)) t (stopN S i) f c ga gn gd ca cn cd wv bs∧Kept f w (w.setCell ⟨gd,i,none⟩ (.bool true)):=by
 have hl:=h.lt
 obtain ⟨h1,h2,h3,h4,h5,h6,h7,h8,h9,h10,h11,h12⟩:=h
 have blk:∀ x,c x≠3→(w.setCell ⟨gd,i,none⟩ (.bool true)).heap[x]? = w.heap[x]?:=fun x hc=>Below.heap_setCell _ _ _ _ (fun e=>hc (by rw [show x=gd from e];exact h9.2.2.2))
 refine ⟨⟨(blk t (by omega)).trans h1,fun j hj=>(World.cell?_of_block (a:=⟨ga,j * 5+2,none⟩) (blk ga (by omega))).trans (h2 j hj),fun j hj=>(World.cell?_of_block (a:=⟨gn,j,none⟩) (blk gn (by omega))).trans (h3 j hj),fun j hj=>?_,fun o=>by simpa using h5 o,
  own_same (f:=fun x=>c x=4) h6 (fun g hg=>(h10 g hg).2) ⟨by simp,fun x _ hx=>blk x (by omega)⟩,fun j hj=>(h7 j hj).same ⟨by simp,fun x _ hx=>blk x (by omega)⟩,h8,h9,h10,fun x hx=>by simpa using hl x hx,h12⟩,⟨rfl,rfl,rfl,by simp,fun x _ hfx=>Below.heap_setCell _ _ _ _ (fun e=>hfx (by rw [show x=gd from e];exact h8.2.2.2))⟩⟩
 show World.cell? _ _=some (Value.bool (if j=i then true else S.dead j))
 by_cases e:j=i
 ·subst e
  rw [if_pos rfl]
  exact World.cell?_setCell_same _ _ _ (by rw [h4 j hj])
 ·rw [if_neg e]
  exact (World.cell?_setCell_other _ _ _ _ (fun e'=>by injection e' with _ e2;omega)).trans (h4 j hj)
end Go.Proofs.YtnaebigoknfndaaGreatDoor
namespace Go.Proofs.YtnaebigoknfndaaGreatDoor
open Go Go.RowKit
theorem TRepC.parts {w:World} {t ga gn gd ca cn cd:Nat} {S:TSt} {f:Nat→Prop} {c:Nat→Nat} {wv:Value} {bs:Nat→Nat} (h:TRepC w t S f c ga gn gd ca cn cd wv bs) {i:Nat} (hi:i<S.n) :
  w.cell? ⟨ga,i * 5+2,none⟩=some (.int .i64 (S.nd i).every)∧w.cell? ⟨gn,i,none⟩=some (.pointer (some ⟨bs i,0,none⟩))∧w.cell? ⟨gd,i,none⟩=some (.bool (S.dead i))∧NRep w (bs i) (S.nd i) (fun x=>f x∧c x=i+5)∧t<w.heap.size∧gn<w.heap.size∧gd<w.heap.size∧ga<w.heap.size:=by
 have hl:=h.lt
 obtain ⟨h1,h2,h3,h4,h5,h6,h7,h8,h9,h10,h11,h12⟩:=h
 exact ⟨h2 i hi,h3 i hi,h4 i hi,h7 i hi,hl t h8.1,hl gn h8.2.2.1,hl gd h8.2.2.2,hl ga h8.2.1⟩
theorem TRepC.way {w:World} {t ga gn gd ca cn cd:Nat} {S:TSt} {f:Nat→Prop} {c:Nat→Nat} {wv:Value} {bs:Nat→Nat} (h:TRepC w t S f c ga gn gd ca cn cd wv bs):w.ownsRow 0 9 1 wv S.way.length (S.way.map Value.string):=by
 obtain ⟨_,_,_,_,_,h6,_⟩:=h
 exact h6
theorem TRepC.wayAt {w:World} {t ga gn gd ca cn cd:Nat} {S:TSt} {f:Nat→Prop} {c:Nat→Nat} {wv:Value} {bs:Nat→Nat} (h:TRepC w t S f c ga gn gd ca cn cd wv bs) {i:Nat} (hi:i<S.way.length) :
  ∃ gw cw,wv=.slice (some ⟨gw,0,none⟩) S.way.length cw∧gw<w.heap.size∧w.cell? ⟨gw,i,none⟩=some (.string (S.way.getD i ⟨#[]⟩)):=by
 have h6:=h.way
 obtain ⟨A,cw,rfl,_,_,hn⟩:=own_form h6
 have hT:=trow_own h6
 obtain ⟨b,off,rfl,lb,hc⟩:=hT.at hi
 rcases h6.2 with ⟨h,_⟩ | ⟨g,cap,cur,he,_⟩
 ·cases h
 simp only [Value.slice.injEq,Option.some.injEq,Addr.mk.injEq,and_true,true_and] at he
 obtain ⟨⟨rfl,rfl⟩,_⟩:=he
 rw [Nat.zero_add] at hc
 exact ⟨b,cw,rfl,lb,hc⟩
theorem cloneT_ok (A:Option Addr) (n c base:Nat) (L:List ByteArray) (w:World) (own:w.ownsRow base 9 1 (.slice A n c) n (L.map Value.string)) (hn:n≤1000000) :
  Calls Tryz.prog 120 #[.slice A n c] w fun e w'=>∃ A' c',e=.returned (.slice A' n c')∧w'.ownsRow w.heap.size 9 1 (.slice A' n c') n (L.map Value.string)∧Below w.heap.size w w':=by
 have hT:=trow_own own
 have hl:=hT.1
 rcases own.2 with ⟨he,h0⟩ | ⟨g,cap,cur,he,_⟩
 ·simp only [Value.slice.injEq] at he
  obtain ⟨rfl,_,rfl⟩:=he
  subst h0
  have e0:L = []:=List.eq_nil_of_length_eq_zero hl
  subst e0
  refine (Tryz.slices_Clone_string_nil 0 0 w).mono ?_
  rintro e w' ⟨rfl,rfl⟩
  exact ⟨none,0,rfl,World.ownsRow_nil _ _ _ _,Below.refl _ _⟩
 ·simp only [Value.slice.injEq] at he
  obtain ⟨rfl,_,rfl⟩:=he
  refine (Tryz.slices_Clone_string g 0 n c L w (by omega) (by omega) (fun j hj=>?_)).mono ?_
  ·obtain ⟨b,off,hA,_,hc⟩:=hT.at (show j<n by omega)
   simp only [Option.some.injEq,Addr.mk.injEq,and_true] at hA
   obtain ⟨rfl,rfl⟩:=hA
   exact hc
  ·rintro e w' ⟨v,rfl,own',_,hb⟩
   rw [List.take_of_length_le (by omega)] at own'
   obtain ⟨A',c',rfl,_⟩:=own_form own'
   exact ⟨A',c',rfl,own',hb⟩
section
variable {t i:Nat} {S:TSt} {f:Nat→Prop}
theorem tlevel_ok (w:World) (id:ByteArray) (h:TRep w t S f) (hi:i<S.n) (hd:S.dead i=false) (ok:NOK (S.nd i)) (k e0:Int) (hk:levN (S.nd i) id=k) (he:(if has (S.nd i).peers id then 0 else 4)=e0) :
  Calls Tryz.prog 91 #[.pointer (some ⟨t,0,none⟩),.int .i64 i,.string id] w fun e w'=>e=.returned (.tuple #[.int .i64 k,.int .i64 e0])∧Below w.heap.size w w':=by
 obtain ⟨c,ga,gn,gd,ca,cn,cd,wv,bs,h⟩:=h
 obtain ⟨_,k1,k2,_,_⟩:=h.cells
 obtain ⟨_,p1,p2,nr,_⟩:=h.parts hi
 rw [hd] at p2
 have HLv:=Lib.hid (nlevel_ok (bs i) (S.nd i) _ id w nr ok k e0 hk he)
 obtain ⟨n,hn⟩:∃ n,S.n=n:=⟨_,rfl⟩
 rw [hn] at k1 k2 hi
 have i0:¬ (i:Int)<0:=by omega
 have i1:(i:Int)<n:=by omega
 have i2:decide ((n:Int)≤i)=false:=by simp;omega
 clear h nr ok hk he hd hn
 go_enter Tryz.func91,Tryz.ntmps91
 go_wp2_with fail
 refine HLv.out.mono ?_
 rintro e w1 ⟨rfl,hb1⟩
 go_wp2_with fail
 go_ret2
 exact ⟨rfl,hb1⟩
theorem tstop_ok (w:World) (h:TRep w t S f) (hi:i<S.n) (hd:S.dead i=false) :
  Calls Tryz.prog 89 #[.pointer (some ⟨t,0,none⟩),.int .i64 i] w fun e w'=>e=.returned (.int .i64 0)∧TRep w' t (stopN S i) f∧Kept f w w':=by
 obtain ⟨c,ga,gn,gd,ca,cn,cd,wv,bs,h⟩:=h
 have HS:=Lib.hid (h.stop hi)
 obtain ⟨_,k1,k2,_,_⟩:=h.cells
 obtain ⟨_,_,p2,_,_⟩:=h.parts hi
 have pf:∀ o,w.frozen? ⟨gd,o,none⟩=false:=by obtain ⟨_,_,_,_,h5,_⟩:=h;exact h5
 rw [hd] at p2
 obtain ⟨n,hn⟩:∃ n,S.n=n:=⟨_,rfl⟩
 rw [hn] at k1 k2 hi
 have i0:¬ (i:Int)<0:=by omega
 have i1:(i:Int)<n:=by omega
 have i2:decide ((n:Int)≤i)=false:=by simp;omega
 clear h hd hn
 go_enter Tryz.func89,Tryz.ntmps89
 go_wp2_with fail
 go_ret
 exact ⟨rfl,⟨c,ga,gn,gd,ca,cn,cd,wv,bs,HS.out.1⟩,HS.out.2⟩
theorem tway_ok (w:World) (h:TRep w t S f) (hw:S.way.length≤1000000) :
  Calls Tryz.prog 80 #[.pointer (some ⟨t,0,none⟩)] w fun e w'=>∃ A' c',e=.returned (.slice A' S.way.length c')∧w'.ownsRow w.heap.size 9 1 (.slice A' S.way.length c') S.way.length (S.way.map Value.string)∧Below w.heap.size w w':=by
 obtain ⟨c,ga,gn,gd,ca,cn,cd,wv,bs,h⟩:=h
 obtain ⟨_,_,_,k3,_⟩:=h.cells
 have h6:=h.way
 obtain ⟨A,cw,rfl,hnc,hcm,hnil⟩:=own_form h6
 have HCl:=Lib.hid (cloneT_ok A S.way.length cw 0 S.way w h6 hw)
 clear h h6 hnc hcm hnil
 go_enter Tryz.func80,Tryz.ntmps80
 go_wp2_with fail
 refine HCl.out.mono ?_
 rintro e w1 ⟨A1,c1,rfl,own1,hb1⟩
 have O1:=Lib.hid own1
 clear own1
 go_wp2_with fail
 go_ret
 exact ⟨A1,c1,rfl,O1.out,hb1⟩
end
end Go.Proofs.YtnaebigoknfndaaGreatDoor
namespace Go.Proofs.YtnaebigoknfndaaGreatDoor
open Go Go.RowKit
structure TN (s:NSt):Prop where
 ok:NOK s
 inc:s.inc=0
 seq:s.seq=s.now / s.every
def mT (s:NSt) (g:Int):Nat:=((s.now+g) / s.every - s.now / s.every).toNat
def txT (s:NSt) (g:Int):List ByteArray:=sentB s.id 0 (s.now / s.every).toNat (mT s g)
theorem TN.tick {s:NSt} {g:Int} (h:TN s) (hg:1≤g) (hn:s.now+g≤1073741824):TN (tickS s g):=by
 have h2:=h.ok.now
 have h3:=h.ok.every
 have h4:=seq_le (n:=s.now+g) (E:=s.every) (by omega) h3.1
 exact ⟨⟨h.ok.id,h.ok.inc,h.ok.every,h.ok.cap,h.ok.least,⟨by show 0≤s.now+g;omega,hn⟩,h4,h.ok.drops,h.ok.tab,fun p hp=>⟨(h.ok.wins p hp).1,by have:=(h.ok.wins p hp).2;show p.last≤s.now+g;omega⟩,h.ok.subs⟩,h.inc,rfl⟩
theorem TN.tell {s:NSt} (h:TN s):TN (tellS s):=⟨h.ok.tell,h.inc,h.seq⟩
theorem mT_le {s:NSt} {g:Int} (h:TN s) (hg:1≤g) (hge:g / s.every<64):mT s g≤64:=by
 have he:=h.ok.every
 have h1:(s.now+g) / s.every≤s.now / s.every+g / s.every+1:=by
  have a:=Int.emod_add_mul_ediv (s.now+g) s.every
  have b:=Int.emod_add_mul_ediv s.now s.every
  have c:=Int.emod_add_mul_ediv g s.every
  have a1:=Int.emod_nonneg (s.now+g) (show s.every≠0 by omega)
  have b2:=Int.emod_lt_of_pos s.now (show 0<s.every by omega)
  have c2:=Int.emod_lt_of_pos g (show 0<s.every by omega)
  rcases Int.lt_or_le (s.now / s.every+g / s.every+1) ((s.now+g) / s.every) with q | q
  ·have:=Int.mul_le_mul_of_nonneg_left (show s.now / s.every+g / s.every+1+1≤(s.now+g) / s.every by omega) (show 0≤s.every by omega)
   rw [Int.mul_add,Int.mul_add,Int.mul_add] at this
   omega
  ·exact q
 unfold mT
 omega
theorem gtick {b:Nat} {s:NSt} {f:Nat→Prop} {g:Int} (w:World) (h:NRep w b s f) (tn:TN s) (hg:1≤g∧g≤1000) (hn:s.now+g≤1073741824) (hge:g / s.every<64) :
  Calls Tryz.prog 122 #[.pointer (some ⟨b,0,none⟩),.int .i64 g] w fun e w'=>∃ (A1:Option Addr) (c1:Nat) (A':Option Addr) (c':Nat),e=.returned (.tuple #[.slice A1 (txT s g).length c1,.slice A' (tickF s g).2.length c',.int .i64 0])∧w'.ownsRow w.heap.size 9 1 (.slice A1 (txT s g).length c1) (txT s g).length ((txT s g).map Value.string) ∧
   w'.ownsRow w.heap.size 155 3 (.slice A' (tickF s g).2.length c') (tickF s g).2.length (notesC (tickF s g).2)∧NRep w' b (tickF s g).1 f∧Kept f w w':=by
 have e1:=tn.ok.every
 have n0:=tn.ok.now
 have q1:=seq_le (n:=s.now) (E:=s.every) (by omega) e1.1
 have q2:=seq_le (n:=s.now+g) (E:=s.every) (by omega) e1.1
 have q3:s.now / s.every≤(s.now+g) / s.every:=Int.ediv_le_ediv (by omega) (by omega)
 have ht:({ s with now:=s.now+g,seq:=(((s.now / s.every).toNat+mT s g:Nat):Int) }:NSt)=tickS s g:=by
  unfold tickS mT
  rw [show (((s.now / s.every).toNat+((s.now+g) / s.every - s.now / s.every).toNat:Nat):Int)=(s.now+g) / s.every by omega]
 have hm:=mT_le tn hg.1 hge
 refine (tick_ok (inc:=0) (seq:=(s.now / s.every).toNat) (m:=mT s g) (g:=g) (D:=s.now / s.every) w h tn.ok (by rw [tn.inc];rfl) (by rw [tn.seq];omega) ⟨by omega,by omega⟩ hn hge rfl (by unfold mT;omega) (by omega) (fun t htt=>by
  rw [htt,ht]
  exact (tn.tick hg.1 hn).ok)).mono ?_
 rintro e w' ⟨t,v,A',c',htt,rfl,hs,hn,rep,kept⟩
 rw [ht] at htt
 subst htt
 obtain ⟨A1,c1,rfl,_⟩:=own_form hs
 have hl:(txT s g).length=mT s g:=sentB_len _ _ _ _
 rw [sent_map] at hs
 rw [hl]
 exact ⟨A1,c1,A',c',rfl,hs,hn,rep,kept⟩
def tkN (S:TSt) (g:Int) (j:Nat):NSt:=if S.dead j then S.nd j else (tickF (S.nd j) g).1
def txN (S:TSt) (g:Int) (j:Nat):List ByteArray:=if S.dead j then [] else txT (S.nd j) g
def noN (S:TSt) (g:Int) (j:Nat):List Note:=if S.dead j then [] else (tickF (S.nd j) g).2
def twS (S:TSt) (g:Int) (k:Nat):TSt:={ S with nd:=fun j=>if j<k then tkN S g j else S.nd j,way:=S.way++(List.range k).flatMap (txN S g) }
def twN (S:TSt) (g:Int) (k:Nat):List Note:=(List.range k).flatMap (noN S g)
def sumM (S:TSt) (g:Int) (k:Nat):Nat:=((List.range k).flatMap (txN S g)).length
theorem flat_succ {α:Type} (F:Nat→List α) (k:Nat):(List.range (k+1)).flatMap F=(List.range k).flatMap F++F k:=by rw [List.range_succ,List.flatMap_append];simp
theorem sumM_succ (S:TSt) (g:Int) (k:Nat):sumM S g (k+1)=sumM S g k+(txN S g k).length:=by unfold sumM;rw [flat_succ,List.length_append]
theorem sumM_mono (S:TSt) (g:Int) {j k:Nat} (h:j≤k):sumM S g j≤sumM S g k:=by
 induction k with
 | zero=>
  obtain rfl:j=0:=by omega
  exact Nat.le_refl _
 | succ k ih=>
  rcases Nat.eq_or_lt_of_le h with rfl | h
  ·exact Nat.le_refl _
  ·have:=ih (by omega);rw [sumM_succ];omega
structure TickOK (S:TSt) (g:Int):Prop where
 n:S.n≤5
 gb:1≤g∧g≤1000
 node:∀ j,j<S.n→TN (S.nd j)
 room:∀ j,j<S.n→S.dead j=false→(S.nd j).now+g≤1073741824∧g / (S.nd j).every<64
 way:S.way.length≤1000
theorem notes_le {S:TSt} {g:Int} (h:TickOK S g):∀ k,k≤S.n→(twN S g k).length≤8 * k
 | 0,_=>by simp [twN]
 | k+1,hk=>by
   have ih:=notes_le h k (by omega)
   have e:twN S g (k+1)=twN S g k++noN S g k:=flat_succ _ _
   have h8:(noN S g k).length≤8:=by
    unfold noN
    split
    ·simp
    ·exact Nat.le_trans (told_le _ _) (h.node k (by omega)).ok.subs
   rw [e,List.length_append]
   omega
theorem own_cells0 {w:World} {base e size n c:Nat} {ad:Addr} {xs:List Value} (h:w.ownsRow base e size (.slice (some ad) n c) n xs):∀ j u,xs[j]? = some u→w.cell? (ad.add j)=some u:=by
 intro j u hu
 have h4:=h
 rcases h.2 with ⟨he,h0'⟩ | ⟨g,c',cur,he,_,hg,hnc,hcm,hcs,htk⟩
 ·cases he
 simp only [Value.slice.injEq,Option.some.injEq] at he
 obtain ⟨rfl,_,rfl⟩:=he
 exact h4.cells (g:=g) rfl j u hu
theorem wpList_append_rowG {w:World} {ops:Array Oper} {rest:List Oper} {o:Oper} {a:Act} {Q:Exit→Act→World→Prop} (hgd:o.guard=none) (s x:Operand) (t:TypeId)
  (ho:o.op=.call { callee:=.builtin .append,args:=#[s,x],argTypes:=#[t,t] })
  (base base2 e:Nat) (i:TypeInfo) (z:Value) (size bytes:Nat) (ht:Tryz.prog.underlying t=some (.slice e)) (hi:Tryz.prog.info? e=some i) (hz:i.zero=some z)
  (hsize:i.size=size) (hby:i.bytes=bytes) (hzs:z.cells.size=size) (hsz:0<size)
  (v:Value) (n:Nat) (xs:List Value) (hs:a.eval s=v) (hown:w.ownsRow base e size v n xs)
  (A:Option Addr) (m c:Nat) (ys:List Value) (hx:a.eval x=.slice A m c) (hr:w.ownsRow base2 e size (.slice A m c) m ys) (h1:∀ u∈ys,u.oneCell'=true)
  (h63:n+m≤maxLen) (hbytes:(n+m) * bytes≤140737488355328) (hbase:base≤w.heap.size)
  (h:∀ v' w',w'.ownsRow base e size v' (n+m) (xs++ys)→w.grownBy w' v.ownBlock→(v'.ownBlock=v.ownBlock∨v'.ownBlock=some w.heap.size)→wpList Tryz.prog ops Q rest (a.put o.dst v') w'):wpList Tryz.prog ops Q (o :: rest) a w:=by
 rcases A with _ | ad
 ·obtain ⟨A',c',he,h1,h2,h3⟩:=own_form hr
  simp only [Value.slice.injEq] at he
  obtain ⟨rfl,_,rfl⟩:=he
  obtain ⟨rfl,rfl⟩:=h3 rfl
  have e0:ys = []:=by have:=hr.1;exact List.eq_nil_of_length_eq_zero (by simpa using this)
  subst e0
  have hrun:=run_append_owned_none (P:=Tryz.prog) (w:=w) base t o.type e i size ht hi v n _ hown
  refine wpList_plain hgd fun K hK=>?_
  unfold Oper.wp
  simp [execOp,ho,resolve,invoke,builtin,hs,hx,hrun,Result.andThen]
  exact hK _ _ (h v w (by simpa using hown) ⟨rfl,rfl,rfl,Nat.le_refl _,fun _ _ _=>rfl⟩ (.inl rfl))
 ·exact wpList_append_own_at w hgd s x t ho base e i z size bytes ht hi hz hsize hby hzs hsz v n xs hs hown ad m c ys hx hr.1 (own_cells0 hr) h1 h63 hbytes hbase (fun v' w' h2 h3 _ h5=>h v' w' h2 h3 h5)
theorem noteC_one (L:List Note):∀ u∈notesC L,u.oneCell'=true:=by
 intro u hu
 obtain ⟨s,_,hs⟩:=List.mem_flatMap.1 hu
 simp [noteC] at hs
 rcases hs with rfl | rfl | rfl <;> rfl
theorem notesC_app (L M:List Note):notesC (L++M)=notesC L++notesC M:=by simp [notesC]
theorem twS_dead {S:TSt} {g:Int} {k:Nat} (hd:S.dead k=true):twS S g (k+1)=twS S g k:=by
 unfold twS
 have e1:(fun j=>if j<k+1 then tkN S g j else S.nd j)=(fun j=>if j<k then tkN S g j else S.nd j):=by
  funext j
  by_cases h:j=k
  ·subst h
   rw [if_pos (by omega),if_neg (by omega)]
   unfold tkN
   rw [if_pos hd]
  ·by_cases h2:j<k
   ·rw [if_pos (by omega),if_pos h2]
   ·rw [if_neg (by omega),if_neg h2]
 rw [e1,flat_succ,show txN S g k = [] by unfold txN;rw [if_pos hd],List.append_nil]
theorem twN_dead {S:TSt} {g:Int} {k:Nat} (hd:S.dead k=true):twN S g (k+1)=twN S g k:=by
 unfold twN
 rw [flat_succ,show noN S g k = [] by unfold noN;rw [if_pos hd],List.append_nil]
theorem twS_live {S:TSt} {g:Int} {k:Nat} (hd:S.dead k=false):wayN (setN (twS S g k) k (tickF (S.nd k) g).1) ((twS S g k).way++txT (S.nd k) g)=twS S g (k+1):=by
 unfold twS wayN setN
 have e1:(fun j=>if j=k then (tickF (S.nd k) g).1 else if j<k then tkN S g j else S.nd j)=(fun j=>if j<k+1 then tkN S g j else S.nd j):=by
  funext j
  by_cases h:j=k
  ·subst h
   rw [if_pos rfl,if_pos (by omega)]
   unfold tkN
   rw [hd]
   rfl
  ·rw [if_neg h]
   by_cases h2:j<k
   ·rw [if_pos h2,if_pos (by omega)]
   ·rw [if_neg h2,if_neg (by omega)]
 show TSt.mk _ _ _ _=TSt.mk _ _ _ _
 rw [e1,flat_succ,show txN S g k=txT (S.nd k) g by unfold txN;rw [hd];rfl,List.append_assoc]
theorem twS_zero (S:TSt) (g:Int):twS S g 0=S:=by
 unfold twS
 have e1:(fun j=>if j<0 then tkN S g j else S.nd j)=S.nd:=by funext j;rw [if_neg (by omega)]
 rw [e1]
 simp
theorem twN_live {S:TSt} {g:Int} {k:Nat} (hd:S.dead k=false):twN S g (k+1)=twN S g k++(tickF (S.nd k) g).2:=by
 unfold twN
 rw [flat_succ,show noN S g k=(tickF (S.nd k) g).2 by unfold noN;rw [hd];rfl]
theorem sumM_bd {S:TSt} {g:Int} (h:TickOK S g):∀ k,k≤S.n→sumM S g k≤64 * k
 | 0,_=>by simp [sumM]
 | k+1,hk=>by
   have ih:=sumM_bd h k (by omega)
   have h8:(txN S g k).length≤64:=by
    unfold txN
    split
    ·simp
    ·rename_i hd
     unfold txT
     rw [sentB_len]
     exact mT_le (h.node k (by omega)) h.gb.1 (h.room k (by omega) (by simpa using hd)).2
   rw [sumM_succ]
   omega
theorem sumM_way {S:TSt} {g:Int} (k:Nat):(twS S g k).way.length=S.way.length+sumM S g k:=by unfold twS sumM;rw [List.length_append]
theorem ttick_ok {t:Nat} {S:TSt} {f:Nat→Prop} {g:Int} (w:World) (h:TRep w t S f) (ok:TickOK S g) :
  Calls Tryz.prog 83 #[.pointer (some ⟨t,0,none⟩),.int .i64 g] w fun e w'=>
   (1000<S.way.length+sumM S g S.n∧e=.returned (.tuple #[.slice none 0 0,.int .i64 10])∧Below w.heap.size w w') ∨
   (S.way.length+sumM S g S.n≤1000∧∃ A' c' f',e=.returned (.tuple #[.slice A' (twN S g S.n).length c',.int .i64 0])∧w'.ownsRow w.heap.size 155 3 (.slice A' (twN S g S.n).length c') (twN S g S.n).length (notesC (twN S g S.n)) ∧
     TRep w' t (twS S g S.n) f'∧(∀ x,f' x→f x∨w.heap.size≤x)∧Kept f w w'):=by
 obtain ⟨c,ga,gn,gd,ca,cn,cd,wv,bs,h⟩:=h
 obtain ⟨k0,k1,k2,k3,_⟩:=h.cells
 have tl:t<w.heap.size:=h.lt t h.ft
 obtain ⟨Aw,cw,rfl,_,_,_⟩:=own_form h.way
 have HRep:=Lib.hid h
 have HOk:=Lib.hid ok
 obtain ⟨n,hn⟩:∃ n,S.n=n:=⟨_,rfl⟩
 obtain ⟨m,hm⟩:∃ m,S.way.length=m:=⟨_,rfl⟩
 have n5:=ok.n
 have m1000:=ok.way
 obtain ⟨g1,g2⟩:=ok.gb
 rw [hn] at k0 k1 k2 n5
 rw [hm] at k3 m1000
 rw [hn,hm]
 have HN:=Lib.hid (And.intro hn hm)
 have g3:decide (1000<g)=false:=by simp;omega
 have g4:¬ g<1:=by omega
 clear h ok hn hm
 go_enter Tryz.func83,Tryz.ntmps83
 go_wp2_with fail
 go_loopw [6,32] (fun v i wr=>∃ k:Nat,k≤n∧i=.int .i64 k∧v=.int .i64 ((m+sumM S g k:Nat):Int)∧Below w.heap.size w wr) (fun _ i _=>n - (intOf i).toNat)
 case atStart=>exact ⟨0,Nat.zero_le _,rfl,by simp [sumM],Below.refl _ _⟩
 case round=>
  obtain ⟨wx,rfl⟩:∃ z:World,z=wr:=⟨_,rfl⟩
  obtain ⟨k,hk,rfl,rfl,bel⟩:=hrel
  have szx:=bel.size
  by_cases hlt:k<n
  ·have hkS:k<S.n:=by have:=HN.out.1;omega
   have hT:=HRep.out.below bel
   obtain ⟨q0,q1,q2,q3,_⟩:=hT.cells
   obtain ⟨p0,p1,p2,nr,tl2,nl2,dl2,al2⟩:=hT.parts hkS
   rw [HN.out.1] at q0 q1 q2
   rw [HN.out.2] at q3
   have tn:=HOk.out.node k hkS
   have sb:=sumM_bd HOk.out k (by omega)
   have sc:=sumM_succ S g k
   obtain ⟨ev,hev⟩:∃ x,(S.nd k).every=x:=⟨_,rfl⟩
   obtain ⟨nw,hnw⟩:∃ x,(S.nd k).now=x:=⟨_,rfl⟩
   have evb:=tn.ok.every
   have nwb:=tn.ok.now
   have hroom:=HOk.out.room k hkS
   rw [hev] at p0 evb hroom
   rw [hnw] at nwb hroom
   obtain ⟨M,hM⟩:∃ x,sumM S g k=x:=⟨_,rfl⟩
   obtain ⟨M',hM'⟩:∃ x,sumM S g (k+1)=x:=⟨_,rfl⟩
   rw [hM] at sb sc
   rw [hM'] at sc
   rw [hM]
   have kw:IntKind.i64.wrap ((k:Int)+1)=(k:Int)+1:=IntWalk.i64_in _ (by omega)
   have HM':=Lib.hid hM'
   have hkn:(k:Int)<n:=by omega
   cases hd:S.dead k with
   | true=>
    rw [hd] at p2
    have e0:M'=M:=by rw [sc];unfold txN;rw [if_pos hd];rfl
    subst e0
    clear sc hM hM' hd hev hnw tn hroom nr hT
    have HBe:=Lib.hid bel
    clear bel
    go_wp2_with fail
    go_roundw
    case rel=>exact ⟨k+1,by omega,by go_num,by rw [HM'.out],HBe.out⟩
    case measure=>simp [intOf];omega
   | false=>
    rw [hd] at p2
    obtain ⟨r1,r2⟩:=hroom hd
    have hl:(txN S g k).length=((nw+g) / ev - nw / ev).toNat:=by
     unfold txN txT
     rw [if_neg (by rw [hd];simp),sentB_len]
     unfold mT
     rw [hnw,hev]
    rw [hl] at sc
    obtain ⟨u,hu⟩:∃ u,nw+g=u:=⟨_,rfl⟩
    have d0:nw / ev≤u / ev:=Int.ediv_le_ediv (by omega) (by omega)
    have d1:=seq_le (n:=nw) (E:=ev) (by omega) evb.1
    have d2:=seq_le (n:=u) (E:=ev) (by omega) evb.1
    have d3:=seq_le (n:=g) (E:=ev) (by omega) evb.1
    have t1:nw.tdiv ev=nw / ev:=Int.tdiv_eq_ediv_of_nonneg (by omega)
    have t2:u.tdiv ev=u / ev:=Int.tdiv_eq_ediv_of_nonneg (by omega)
    have t3:g.tdiv ev=g / ev:=Int.tdiv_eq_ediv_of_nonneg (by omega)
    obtain ⟨x1,hx1⟩:∃ x,nw / ev=x:=⟨_,rfl⟩
    obtain ⟨x2,hx2⟩:∃ x,u / ev=x:=⟨_,rfl⟩
    obtain ⟨x3,hx3⟩:∃ x,g / ev=x:=⟨_,rfl⟩
    rw [hu,hx1,hx2] at sc
    rw [hx1] at d0 d1 t1
    rw [hx2] at d0 d2 t2
    rw [hx3] at d3 t3 r2
    rw [hu] at r1
    have vu:IntKind.i64.wrap (nw+g)=u:=by rw [hu];exact IntWalk.i64_in _ (by omega)
    have v1:IntKind.i64.wrap x1=x1:=IntWalk.i64_in _ (by omega)
    have v2:IntKind.i64.wrap x2=x2:=IntWalk.i64_in _ (by omega)
    have v3:IntKind.i64.wrap x3=x3:=IntWalk.i64_in _ (by omega)
    obtain ⟨dd,hdd⟩:∃ x,x2 - x1=x:=⟨_,rfl⟩
    have v4:IntKind.i64.wrap (x2 - x1)=dd:=by rw [hdd];exact IntWalk.i64_in _ (by omega)
    have v5:IntKind.i64.wrap (((m+M:Nat):Int)+dd)=((m+M':Nat):Int):=by
     have:((m+M:Nat):Int)+dd=((m+M':Nat):Int):=by omega
     rw [this];exact IntWalk.i64_in _ (by omega)
    obtain ⟨y,hy⟩:∃ y:Int,((m+M:Nat):Int)=y:=⟨_,rfl⟩
    obtain ⟨y',hy'⟩:∃ y:Int,((m+M':Nat):Int)=y:=⟨_,rfl⟩
    rw [hy,hy'] at v5
    have HY':=Lib.hid hy'
    have c1:decide (1073741824<u)=false:=by simp;omega
    have c2:decide (64≤x3)=false:=by simp;omega
    have ne0:¬ ev=0:=by omega
    have ne1:(ev==0)=false:=by simp;omega
    obtain ⟨Pk,Sk,nd⟩:=nr.at'
    rw [hnw] at nd
    have HNd:=Lib.hid nd
    have ndl:=nd.lt
    have HNow:=Lib.hid (now_ok wx nd)
    have HBe:=Lib.hid bel
    rw [hy]
    clear sc hM hM' hd hev hnw tn hroom nr hT hu hx1 hx2 hx3 hdd hl hy hy' nd bel d0 r1 r2
    go_wp2_with fail
    refine HNow.out.mono ?_
    rintro e w' ⟨rfl,rfl⟩
    go_wp2_with fail
    refine wp_region_quiet_all (Ext _) (by kernel_rfl) (by kernel_rfl) (Ext.drawn _) ?_
    repeat (first | go_big_quiet_skip | go_big_quiet_step (fail) | (refine BigFrame.wpQuiet_want rfl (fun K hK=>?_);apply Exists.intro;refine ⟨fun w2 h2=>?_,?_⟩;(next=>(have g1:=Below.cells h2.below;have g2:=Below.frozens h2.below;(try simp only [World.size_alloc,World.size_setCell] at g1 g2);first | (go_simp;(go_at_call 121;refine h2.calls ((now_ok _ (HNd.out.same (h2.below.block _ ndl))).mono fun _ _ ⟨he,hw⟩=>⟨he,hw ▸ Below.refl _ _⟩))) | (simp [go_sem,↓IntWalk.iteOmega, *];done) | (simp [go_sem,↓IntWalk.iteOmega, *];rfl))));(go_simp;refine hK _ ?_;clear hK K))
    refine wpQuiet_nil ?_
    intro w2 h2
    have hb2:=h2.below
    clear h2
    have z2:=hb2.size
    have c2:=Below.cells hb2
    have f2:=Below.frozens hb2
    try simp only [World.size_alloc,World.size_setCell,World.size_drew] at z2 c2 f2
    go_wp2_with fail
    go_roundw
    case rel=>exact ⟨k+1,by omega,by go_num,by rw [HM'.out,HY'.out],HBe.out.trans (hb2.mono szx)⟩
    case measure=>simp [intOf];omega
  ·obtain rfl:n=k:=by omega
   have hT:=HRep.out.below bel
   obtain ⟨q0,q1,q2,q3,_⟩:=hT.cells
   rw [HN.out.1] at q0 q1 q2
   rw [HN.out.2] at q3
   have HT:=Lib.hid hT
   have HBe:=Lib.hid bel
   have sb:=sumM_bd HOk.out S.n (Nat.le_refl _)
   rw [HN.out.1] at sb
   obtain ⟨M,hM⟩:∃ x,m+sumM S g n=x:=⟨_,rfl⟩
   have HM:=Lib.hid hM
   clear hT bel
   by_cases hfull:1000<M
   ·have f1:(1000:Int)<(M:Int):=by omega
    rw [hM]
    clear hM
    go_wp2_with fail
    go_ret2
    exact .inl ⟨by rw [HM.out];exact hfull,rfl,HBe.out⟩
   ·have f1:¬ (1000:Int)<(M:Int):=by omega
    rw [hM]
    clear hM
    obtain ⟨i1,hi1,hy0,hy1,hy2⟩:=info_parts info_str
    obtain ⟨i2,hi2,hw0,hw1,hw2⟩:=info_parts info_note
    go_wp2_with fail
    go_loopw [10,84] (fun v i wy=>∃ (k:Nat) (A':Option Addr) (c':Nat) (f':Nat→Prop) (cl:Nat→Nat) (wv:Value),k≤n∧i=.int .i64 k∧v=.slice A' (twN S g k).length c'∧wy.ownsRow w.heap.size 155 3 (.slice A' (twN S g k).length c') (twN S g k).length (notesC (twN S g k))∧TRepC wy t (twS S g k) f' cl ga gn gd ca cn cd wv bs∧(∀ x,f' x→f x∨w.heap.size≤x)∧(∀ q,(Value.slice A' (twN S g k).length c').ownBlock=some q→¬ f' q)∧Kept f w wy) (fun _ i _=>n - (intOf i).toNat)
    case atStart=>exact ⟨0,none,0,f,_,_,Nat.zero_le _,rfl,rfl,World.ownsRow_nil _ _ _ _,by rw [twS_zero];exact HT.out,fun x hx=>.inl hx,(fun q hq=>by simp [Value.ownBlock] at hq),Kept.of_below HBe.out⟩
    case round=>
     obtain ⟨wy,rfl⟩:∃ z:World,z=wr:=⟨_,rfl⟩
     obtain ⟨k,A',c',f',cl,wv,hk,rfl,rfl,hown,hT,hf',hno,hkept⟩:=hrel
     by_cases hlt:k<n
     ·have hkS:k<S.n:=by have:=HN.out.1;omega
      have hkS':k<(twS S g k).n:=hkS
      obtain ⟨q0,q1,q2,q3,qfz⟩:=hT.cells
      obtain ⟨p0,p1,p2,nr,tl2,nl2,dl2,al2⟩:=hT.parts hkS'
      rw [show (twS S g k).n=n from HN.out.1] at q0 q1 q2
      rw [show (twS S g k).dead k=S.dead k from rfl] at p2
      rw [show (twS S g k).nd k=S.nd k from if_neg (by omega)] at nr
      obtain ⟨Aw2,cw2,rfl,_,_,_⟩:=own_form hT.way
      have hwl:=sumM_way (S:=S) (g:=g) k
      have hmono:=sumM_mono S g (show k≤n by omega)
      have hM1:=HM.out
      rw [HN.out.2] at hwl
      have tn:=HOk.out.node k hkS
      have hroom:=HOk.out.room k hkS
      have nle:=notes_le HOk.out k (by omega)
      have kw:IntKind.i64.wrap ((k:Int)+1)=(k:Int)+1:=IntWalk.i64_in _ (by omega)
      have hkn:(k:Int)<n:=by omega
      obtain ⟨L,hL⟩:∃ x,(twS S g k).way.length=x:=⟨_,rfl⟩
      rw [hL] at q3 hwl
      have HL:=Lib.hid hL
      have HT2:=Lib.hid hT
      have HOw:=Lib.hid hown
      have HF:=Lib.hid hf'
      have HNo:=Lib.hid hno
      have HKp:=Lib.hid hkept
      have szy:=hkept.size
      cases hd:S.dead k with
      | true=>
       rw [hd] at p2
       have e1:=twS_dead (g:=g) hd
       have e2:=twN_dead (g:=g) hd
       have HE:=Lib.hid (And.intro e1 e2)
       clear e1 e2 hd hL hT hown hf' hno hkept hroom tn nr hwl hmono
       go_wp2_with fail
       go_roundw
       case rel=>exact ⟨k+1,A',c',f',cl,_,by omega,by go_num,by rw [HE.out.2],by rw [HE.out.2];exact HOw.out,by rw [HE.out.1];exact HT2.out,HF.out,by rw [HE.out.2];exact HNo.out,HKp.out⟩
       case measure=>simp [intOf];omega
      | false=>
       rw [hd] at p2
       obtain ⟨r1,r2⟩:=hroom hd
       have HTk:=Lib.hid (gtick wy nr tn HOk.out.gb r1 r2)
       have hl1:(txT (S.nd k) g).length≤64:=by unfold txT;rw [sentB_len];exact mT_le tn HOk.out.gb.1 r2
       have hl2:(tickF (S.nd k) g).2.length≤8:=Nat.le_trans (told_le _ _) tn.ok.subs
       have HE:=Lib.hid (And.intro (twS_live (g:=g) hd) (twN_live (g:=g) hd))
       obtain ⟨X1,hX1⟩:∃ x,txT (S.nd k) g=x:=⟨_,rfl⟩
       obtain ⟨s2,hs2⟩:∃ x,(tickF (S.nd k) g).1=x:=⟨_,rfl⟩
       obtain ⟨N2,hN2⟩:∃ x,(tickF (S.nd k) g).2=x:=⟨_,rfl⟩
       have hev:s2.every=(S.nd k).every:=by rw [← hs2];rfl
       have HEv:=Lib.hid (show s2.every=((twS S g k).nd k).every by rw [show (twS S g k).nd k=S.nd k from if_neg (by omega)];exact hev)
       rw [hX1,hs2,hN2] at HTk HE
       rw [hX1] at hl1
       rw [hN2] at hl2
       obtain ⟨x1,hx1⟩:∃ x,X1.length=x:=⟨_,rfl⟩
       obtain ⟨x2,hx2⟩:∃ x,N2.length=x:=⟨_,rfl⟩
       obtain ⟨o1,ho1⟩:∃ x,(twN S g k).length=x:=⟨_,rfl⟩
       rw [hx1,hx2] at HTk
       rw [hx1] at hl1
       rw [hx2] at hl2
       rw [ho1] at nle HOw HNo
       have HXl:=Lib.hid (And.intro hx1 (And.intro hx2 ho1))
       have hL1000:L≤1000:=by omega
       have HWl:=Lib.hid hwl
       rw [ho1]
       clear hd hL hT hown hf' hno hkept hroom tn nr r1 r2 hX1 hs2 hN2 hev hx1 hx2 ho1 p0 hwl hmono hM1
       go_wp2_with fail
       refine HTk.out.mono ?_
       rintro e w2 ⟨A1,c1,A2,c2,rfl,own1,own2,rep2,k2⟩
       have z2:=k2.size
       have N:=HT2.out.node (M:=wy.heap.size) hkS' rep2 ⟨Nat.le_refl _,z2⟩ (fun x hx=>.inl hx) k2 HEv.out
       have O2:=own_same (f:=fun x=>¬ f' x) HOw.out (fun q hq=>HNo.out q hq) ⟨z2,fun x hx hfx=>k2.block x hx (fun e=>hfx e.1)⟩
       have lt2:=HOw.out.lt
       obtain ⟨_,_,_,y3,yf⟩:=N.1.cells
       have lt':=HT2.out.lt
       have ft:=HT2.out.ft
       have wfb:∀ q,(Value.slice Aw2 (twS S g k).way.length cw2).ownBlock=some q→f' q∧cl q=4:=by obtain ⟨_,_,_,_,_,_,_,_,_,h10,_⟩:=HT2.out;exact h10
       have W2:w2.ownsRow 0 9 1 (.slice Aw2 L cw2) L ((twS S g k).way.map Value.string):=by have:=N.1.way;rw [show (setN (twS S g k) k s2).way=(twS S g k).way from rfl,HL.out] at this;exact this
       have y3':w2.cell? ⟨t,3,none⟩=some (.slice Aw2 L cw2):=by rw [← HL.out];exact y3
       rw [HL.out] at wfb
       have HN2:=Lib.hid N
       have HW2:=Lib.hid W2
       have HO2:=Lib.hid O2
       have HO1:=Lib.hid own1
       have HP2:=Lib.hid own2
       have HLt:=Lib.hid (And.intro lt' (And.intro ft (And.intro wfb lt2)))
       have K2:=Lib.hid k2
       have tlt:t<w2.heap.size:=by have:=lt' t ft;omega
       have sy:w.heap.size≤w2.heap.size:=by omega
       clear own1 own2 rep2 k2 N O2 W2 lt2 lt' ft wfb y3
       go_wp2_with (at_builtin;refine wpList_append_rowG rfl _ _ 26 rfl 0 wy.heap.size 9 i1 (.string ⟨#[]⟩) 1 16 Tryz.underlying26 hi1 hy0 hy1 hy2 rfl (by decide) _ L _ rfl HW2.out A1 x1 c1 _ rfl HO1.out (strs_one _) (by unfold maxLen;omega) (by omega) (Nat.zero_le _) ?_)
       intro v3 w3 own3 gr3 loc3
       obtain ⟨A3,c3,rfl,_,_,_⟩:=own_form own3
       have z3:=gr3.size
       have O3:=Lib.hid (own_same (f:=fun x=>¬ f' x) HO2.out (fun q hq=>HNo.out q hq) ⟨z3,fun x hx hfx=>gr3.block x hx (fun e=>hfx (HLt.out.2.2.1 x e.symm).1)⟩)
       have P3:=Lib.hid (own_same (f:=fun x=>wy.heap.size≤x) HP2.out (fun q hq=>(HP2.out.lt q hq).1) ⟨z3,fun x hx hfx=>gr3.block x hx (fun e=>by have:=HLt.out.1 x (HLt.out.2.2.1 x e.symm).1;omega)⟩)
       have HW3:=Lib.hid own3
       have HG3:=Lib.hid gr3
       have HLoc:=Lib.hid loc3
       clear own3 gr3 loc3
       go_wp2_with (at_builtin;refine wpList_append_rowG rfl _ _ 111 rfl w.heap.size wy.heap.size 155 i2 (.agg #[.string ⟨#[]⟩,.int .i64 0,.bool false]) 3 32 Tryz.underlying111 hi2 hw0 hw1 hw2 rfl (by decide) _ o1 _ rfl O3.out A2 x2 c2 _ rfl P3.out (noteC_one _) (by unfold maxLen;omega) (by omega) (by omega) ?_)
       intro v4 w4 own4 gr4 loc4
       obtain ⟨A4,c4,rfl,_,_,_⟩:=own_form own4
       have z4:=gr4.size
       have tq:some t≠(Value.slice A' o1 c').ownBlock:=fun e=>HNo.out t e.symm HLt.out.2.1
       have tw:some t≠(Value.slice Aw2 L cw2).ownBlock:=fun e=>by
        have h1:=(HLt.out.2.2.1 t e.symm).2
        obtain ⟨_,_,_,_,_,_,_,_,h9,_⟩:=HT2.out
        omega
       have y4:w4.cell? ⟨t,3,none⟩=some (.slice Aw2 L cw2):=(World.cell?_of_block (a:=⟨t,3,none⟩) ((gr4.block t (by omega) tq).trans (HG3.out.block t tlt tw))).trans y3'
       have yf4:∀ o,w4.frozen? ⟨t,o,none⟩=false:=fun o=>(World.frozen?_of_block ((gr4.block t (by omega) tq).trans (HG3.out.block t tlt tw))).trans (yf o)
       have HG4:=Lib.hid gr4
       have HO4:=Lib.hid own4
       have HLoc4:=Lib.hid loc4
       clear own4 gr4 loc4 y3' yf
       have hfx:∀ x,ext f' wy.heap.size wy.heap.size x→f' x:=fun x hx=>hx.elim (fun h=>h) (fun h=>by omega)
       have same24:Same (fun x=>ext f' wy.heap.size wy.heap.size x∧(if wy.heap.size≤x then k+5 else cl x)≠4) w2 w4:=⟨by omega,fun x hx hfx2=>by
        have h1:=hfx x hfx2.1
        have h2:=HLt.out.1 x h1
        have h3:cl x≠4:=fun e=>hfx2.2 (by rw [if_neg (by omega)];exact e)
        exact (HG4.out.block x (by omega) (fun e=>HNo.out x e.symm h1)).trans (HG3.out.block x (by omega) (fun e=>h3 (HLt.out.2.2.1 x e.symm).2))⟩
       have lw3:=HW3.out.lt
       have ho3:w4.ownsRow 0 9 1 (.slice A3 (L+x1) c3) (L+x1) (((twS S g k).way.map Value.string)++X1.map Value.string):=own_same (f:=fun x=>some x≠(Value.slice A' o1 c').ownBlock) HW3.out (fun q hq e=>by
        rcases HLoc.out with h | h
        ·rw [h] at hq
         exact HNo.out q e.symm (HLt.out.2.2.1 q hq).1
        ·rw [hq] at h
         simp only [Option.some.injEq] at h
         have:=(HLt.out.2.2.2 q e.symm).2
         omega) ⟨z4,fun x hx hne=>HG4.out.block x hx hne⟩
       rw [← List.map_append] at ho3
       have hll:((twS S g k).way++X1).length=L+x1:=by rw [List.length_append,HL.out,HXl.out.1]
       rw [← hll] at ho3
       have TW:=HN2.out.1.setWay (L:=(twS S g k).way++X1) (M:=w3.heap.size) same24 ⟨z3,z4⟩ ho3 (fun q hq=>by
        have hq':(Value.slice A3 (L+x1) c3).ownBlock=some q:=by rw [← hll];exact hq
        rcases HLoc.out with h | h
        ·rw [hq'] at h
         refine .inl ?_
         have h2:(Value.slice Aw2 L cw2).ownBlock=some q:=h.symm
         rw [HL.out]
         exact h2
        ·rw [hq'] at h
         simp only [Option.some.injEq] at h
         exact .inr ⟨by omega,(lw3 q hq').2⟩)
       rw [HE.out.1] at TW
       rw [hll] at TW
       have TW':=Lib.hid TW
       have lo4:=HO4.out.lt
       have ff:∀ x,ext (ext f' wy.heap.size wy.heap.size) w2.heap.size w3.heap.size x→f' x∨(w2.heap.size≤x∧x<w3.heap.size):=fun x hx=>hx.imp (hfx x) (fun h=>h)
       have nb4:∀ q,(Value.slice A4 (o1+x2) c4).ownBlock=some q→¬ ext (ext f' wy.heap.size wy.heap.size) w2.heap.size w3.heap.size q:=fun q hq hx=>by
        rcases HLoc4.out with h | h
        ·rw [hq] at h
         rcases ff q hx with h2 | h2
         ·exact HNo.out q h.symm h2
         ·have:=(HLt.out.2.2.2 q h.symm).2;omega
        ·rw [hq] at h
         simp only [Option.some.injEq] at h
         rcases ff q hx with h2 | h2
         ·have:=HLt.out.1 q h2;omega
         ·omega
       have own5:=Lib.hid (own_elsewhere HO4.out (b:=t) (fun e=>nb4 t e (.inl (.inl HLt.out.2.1))) 3 (.slice A3 (L+x1) c3))
       have K5:Kept f w (w4.setCell ⟨t,3,none⟩ (.slice A3 (L+x1) c3)):=by
        refine ⟨HG4.out.os.trans (HG3.out.os.trans (K2.out.os.trans HKp.out.os)),HG4.out.tape.trans (HG3.out.tape.trans (K2.out.tape.trans HKp.out.tape)),HG4.out.output.trans (HG3.out.output.trans (K2.out.output.trans HKp.out.output)),by simp only [World.size_setCell];omega,fun x hx hfx3=>?_⟩
        have nf:¬ f' x:=fun h=>(HF.out x h).elim hfx3 (fun h=>by omega)
        have hxt:x≠t:=fun e=>nf (e ▸ HLt.out.2.1)
        exact (Below.heap_setCell _ _ _ _ (fun e=>hxt e)).trans ((HG4.out.block x (by omega) (fun e=>by have:=(HLt.out.2.2.2 x e.symm);have h9:=HOw.out.lt x e.symm;omega)).trans ((HG3.out.block x (by omega) (fun e=>nf (HLt.out.2.2.1 x e.symm).1)).trans ((K2.out.block x (by omega) (fun e=>nf e.1)).trans (HKp.out.block x hx hfx3))))
       have HK5:=Lib.hid K5
       have HNb:=Lib.hid nb4
       have HFf:=Lib.hid (fun x (hx:ext (ext f' wy.heap.size wy.heap.size) w2.heap.size w3.heap.size x)=>(show f x∨w.heap.size≤x from (ff x hx).elim (HF.out x) (fun h=>.inr (by omega))))
       clear hfx same24 lw3 ho3 hll TW lo4 ff nb4 K5
       go_wp2_with fail
       have e2:(twN S g (k+1)).length=o1+x2:=by rw [HE.out.2,List.length_append,HXl.out.2.2,HXl.out.2.1]
       go_roundw
       case rel=>
        refine ⟨k+1,A4,c4,_,_,_,by omega,by go_num,by rw [e2],?_,TW'.out,HFf.out,?_,HK5.out⟩
        ·rw [e2,HE.out.2,notesC_app]
         exact own5.out
        ·rw [e2]
         exact HNb.out
       case measure=>simp [intOf];omega
     ·obtain rfl:n=k:=by omega
      have HOw:=Lib.hid hown
      have HT2:=Lib.hid hT
      have HF:=Lib.hid hf'
      have HKp:=Lib.hid hkept
      clear hown hT hf' hno hkept
      go_wp2_with fail
      go_ret2
      exact .inr ⟨by have:=HM.out;omega,A',c',f',rfl,HOw.out,⟨_,_,_,_,_,_,_,_,_,HT2.out⟩,HF.out,HKp.out⟩
end Go.Proofs.YtnaebigoknfndaaGreatDoor
namespace Go.Proofs.YtnaebigoknfndaaGreatDoor
open Go Go.RowKit
def zeroT:Value:=.string ⟨#[]⟩
theorem zeroT_cells:zeroT.cells.size=1:=rfl
theorem zeroT_one:∀ v∈zeroT.cells,v.oneCell'=true:=by
 intro v hv
 simp [zeroT,Value.cells] at hv
 subst hv
 rfl
theorem zeroT_run:∀ w,(zeroValue 9).run Tryz.prog w=.ok zeroT w:=Tryz.zeroValue9
theorem delStr_ok (g n c i base:Nat) (xs:List Value) (w:World) (own:w.ownsRow base 9 1 (.slice (some ⟨g,0,none⟩) n c) n xs) (hxs:∀ u∈xs,u.oneCell'=true) (hi:i<n) (hn:n≤1000000) :
  Calls Tryz.prog 124 #[.slice (some ⟨g,0,none⟩) n c,.int .i64 i,.int .i64 ((i+1:Nat):Int)] w fun e w'=>e=.returned (.slice (some ⟨g,0,none⟩) (n - 1) c)∧w'.ownsRow base 9 1 (.slice (some ⟨g,0,none⟩) (n - 1) c) (n - 1) (xs.take (i * 1)++xs.drop ((i+1) * 1))∧w.grownBy w' (some g):=by
 have hxl:=own.1
 rcases own.2 with ⟨h,_⟩ | ⟨g',c',cur,h,hbg,hg,hnc,hcm,hcs,htk⟩
 ·cases h
 simp only [Value.slice.injEq,Option.some.injEq,Addr.mk.injEq,and_true,true_and] at h
 obtain ⟨rfl,rfl⟩:=h
 unfold maxLen at hcm
 obtain ⟨m,hm⟩:∃ m,n=i+1+m:=⟨n - i - 1,by omega⟩
 obtain ⟨j,hj⟩:∃ j,i+1=j:=⟨_,rfl⟩
 obtain ⟨news,hnews⟩:∃ news,xs.drop ((i+1) * 1)=news:=⟨_,rfl⟩
 have hnl:news.length=m * 1:=by rw [← hnews,List.length_drop,hxl];omega
 have hcl:cur.toList.length=c * 1:=by simpa using hcs
 have hcurj:∀ t u,news[t]? = some u→cur[j+t]? = some u:=fun t u hu=>by
  rw [← hnews,List.getElem?_drop,← htk,List.getElem?_take] at hu
  split at hu
  ·rw [hj] at hu;simpa using hu
  ·cases hu
 have hcell:∀ q,w.drew.cell? ⟨g,q,none⟩=cur[q]?:=fun q=>cell_of_row (w:=w) _ _ _ _ _ hg
 have hfz:∀ q,w.drew.frozen? ⟨g,q,none⟩=false:=fun q=>by show w.frozen? _=false;simp [World.frozen?,hg]
 obtain ⟨Ad,hA,hsrc⟩:∃ Ad:Addr,(if c=j then some (⟨g,0,none⟩:Addr) else some ⟨g,j,none⟩)=some Ad∧Hid (∀ t u,news[t]? = some u→w.drew.cell? (Ad.add t)=some u):=by
  by_cases h:c=j
  ·refine ⟨⟨g,0,none⟩,by simp [h],fun t u hu=>?_⟩
   have h0:news.length=0:=by rw [hnl];omega
   rw [List.length_eq_zero_iff.1 h0] at hu
   simp at hu
  ·refine ⟨⟨g,j,none⟩,by simp [h],fun t u hu=>?_⟩
   rw [Addr.add_lit,hcell]
   exact hcurj t u hu
 have s1:Hid (news.length=m * 1):=hnl
 have s2:Hid (∀ u∈news,u.oneCell'=true):=fun u hu=>hxs u (by rw [← hnews] at hu;exact List.mem_of_mem_drop hu)
 have s3:Hid (∀ t,t<news.length→(w.drew.cell? ⟨g,0+i * 1+t,none⟩).isSome=true∧w.drew.frozen? ⟨g,0+i * 1+t,none⟩=false):=fun t ht=>by
  rw [hnl] at ht
  refine ⟨?_,hfz _⟩
  rw [hcell,Nat.zero_add,Array.getElem?_eq_getElem (by omega)];rfl
 obtain ⟨W1,hW1⟩:∃ W1,W1=w.drew.setCells g (0+i * 1) news:=⟨_,rfl⟩
 have hg1:w.drew.heap[g]? = some (.cells cur.toList.toArray 9 (0,0)):=by rw [Array.toArray_toList];exact hg
 have G1:Hid (W1.heap[g]? = some (.cells (splice cur.toList (i * 1) news).toArray 9 (0,0))):=by
  have:=setCells_at news (0+i * 1) cur.toList w.drew hg1 (by rw [hnl,hcl];omega)
  show W1.heap[g]? = _
  rw [hW1,this,Nat.zero_add]
 have only1:=setCells_only (g:=g) news (0+i * 1) w.drew
 rw [← hW1] at only1
 have GR1:Hid (w.grownBy W1 (some g)):=⟨only1.os,only1.tape,only1.output,Nat.le_of_eq only1.size.symm,fun k _ hk=>only1.block k (fun e=>hk (by rw [e]))⟩
 have s4:(splice cur.toList (i * 1) news).length=c * 1:=by rw [length_splice _ _ _ (by rw [hnl,hcl];omega),hcl]
 have hW:Hid (W1=w.drew.setCells g (0+i * 1) news):=hW1
 have hic:i≤c:=by omega
 have hjc:j≤c:=by omega
 have hjn:j≤n:=by omega
 have hij:¬ i=j:=by omega
 have hij2:i≤j:=by omega
 have hne:((i:Int)==(j:Int))=false:=by simp;omega
 have e1:n - j=m:=by omega
 have e2:c - i - 1=c - j:=by omega
 obtain ⟨i0,hi0,hz0,hz1,hz2⟩:=info_parts info_str
 have HTk:Hid (cur.toList.take (n * 1)=xs):=htk
 have HSp:Hid ((splice cur.toList (i * 1) news).take ((n - 1) * 1)=xs.take (i * 1)++news):=by
  show _=_
  rw [show (n - 1) * 1=i * 1+m * 1 by omega,splice_take (by omega),List.take_append_of_le_length (by omega),List.take_of_length_le (l:=news) (by omega),← htk,List.take_take,Nat.min_eq_left (by omega)]
 have X1:=Lib.hid hnews
 have X2:=Lib.hid hcl
 have X3:=Lib.hid hcs
 have X4:=Lib.hid hj
 have X5:=Lib.hid hm
 rw [hj]
 clear hW1 own hcurj hcell hfz hg hg1 htk hnews hxs hnl hcl hcs only1 hxl hj hm
 obtain ⟨W2,hcl2,G2,only2⟩:=run_clear_splice (P:=Tryz.prog) W1 26 0 9 zeroT 1 Tryz.underlying26 zeroT_run zeroT_cells zeroT_one (by omega) (some ⟨g,i+m,none⟩) (n - (i+m)) (c - (i+m)) g (i+m) _ _ G1.out (fun _=>rfl) (by have:=X5.out;omega)
 have G2':=Lib.hid G2
 have GR2:=Lib.hid (grown_trans GR1.out only2.grown)
 clear G2 only2
 go_enter Tryz.func124,Tryz.ntmps124
 go_wp2_with fail
 go_region_law (refine step_append_room rfl (.tmp 22) (.tmp 25) 26 rfl 9 i0 1 Tryz.underlying26 hi0 hz1 g 0 i c (by simp [Act.eval,Act.put]) Ad m (c - j) news (by simp [Act.eval,Act.put, *]) s1.out hsrc.out s2.out (by omega) s3.out ?_;rw [← hW.out])
 all_goals
  go_wp2_with fail
  go_ret
  have hm:=X5.out
  have hcl:=X2.out
  have hsl:=length_splice (splice cur.toList (i * 1) news) (i+m) (zeros zeroT.cells (n - (i+m))) (by rw [zeros_len,zeroT_cells,s4];omega)
  have hrs:(splice (splice cur.toList (i * 1) news) (i+m) (zeros zeroT.cells (n - (i+m)))).take ((n - 1) * 1)=xs.take (i * 1)++xs.drop (j * 1):=by
   rw [show (n - 1) * 1=(i+m)+0 by omega,splice_take (by omega),List.take_zero,List.append_nil,show i+m=(n - 1) * 1 by omega,HSp.out,← X1.out,X4.out]
  refine ⟨by rw [show n - 1=i+m by omega];rfl,⟨?_,.inr ⟨g,c,_,rfl,hbg,G2'.out,by omega,by unfold maxLen;omega,by have:=hsl.trans s4;simpa using this,by simpa using hrs⟩⟩,GR2.out⟩
  rw [← hrs,List.length_take,hsl,s4];omega
theorem erase_map (L:List ByteArray) (k:Nat):(L.map Value.string).take (k * 1)++(L.map Value.string).drop ((k+1) * 1)=(L.eraseIdx k).map Value.string:=by
 rw [List.eraseIdx_eq_take_drop_succ,Nat.mul_one,Nat.mul_one,List.map_append,List.map_take,List.map_drop]
theorem tlose_ok {t i:Nat} {S:TSt} {f:Nat→Prop} (w:World) (h:TRep w t S f) (hi:i<S.way.length) (hw:S.way.length≤1000) :
  Calls Tryz.prog 87 #[.pointer (some ⟨t,0,none⟩),.int .i64 i] w fun e w'=>e=.returned (.int .i64 0)∧(∃ f',TRep w' t (wayN S (S.way.eraseIdx i)) f'∧∀ x,f' x→f x)∧Kept f w w':=by
 obtain ⟨c,ga,gn,gd,ca,cn,cd,wv,bs,h⟩:=h
 obtain ⟨_,k1,k2,k3,kf⟩:=h.cells
 have hl:=h.lt
 have ft:=h.ft
 have tl:=hl t ft
 obtain ⟨gw,cw,rfl,wl,_⟩:=h.wayAt hi
 have own:=h.way
 have hwb:f gw∧c gw=4:=by obtain ⟨_,_,_,_,_,_,_,_,_,h10,_⟩:=h;exact h10 gw rfl
 have htc:c t=0:=by obtain ⟨_,_,_,_,_,_,_,_,h9,_⟩:=h;exact h9.1
 have HDe:=Lib.hid (delStr_ok gw S.way.length cw i 0 _ w own (strs_one _) hi (by omega))
 rw [erase_map] at HDe
 have hle:(S.way.eraseIdx i).length=S.way.length - 1:=by rw [List.length_eraseIdx,if_pos hi]
 have HRep:=Lib.hid h
 have HL:=Lib.hid (And.intro hl (And.intro ft (And.intro hwb hle)))
 obtain ⟨m,hm⟩:∃ m,S.way.length=m:=⟨_,rfl⟩
 rw [hm] at k3 hi hw HDe
 have HM:=Lib.hid hm
 have i0:¬ (i:Int)<0:=by omega
 have i1:(i:Int)<m:=by omega
 have i2:decide ((m:Int)≤i)=false:=by simp;omega
 have iw:IntKind.i64.wrap ((i:Int)+1)=((i+1:Nat):Int):=by rw [IntWalk.i64_in _ (by omega)];omega
 have hne:t≠gw:=fun e=>by rw [e] at htc;omega
 clear h own hl ft hwb htc hle hm
 go_enter Tryz.func87,Tryz.ntmps87
 go_wp2_with fail
 refine HDe.out.mono ?_
 rintro e w1 ⟨rfl,own1,gr1⟩
 have z1:=gr1.size
 have e3:w1.cell? ⟨t,3,none⟩=some (.slice (some ⟨gw,0,none⟩) m cw):=(World.cell?_of_block (a:=⟨t,3,none⟩) (gr1.block t tl (fun e=>hne (by simpa using e)))).trans k3
 have ef:∀ o,w1.frozen? ⟨t,o,none⟩=false:=fun o=>(World.frozen?_of_block (gr1.block t tl (fun e=>hne (by simpa using e)))).trans (kf o)
 have HS:=Lib.hid (HRep.out.setWay (w1:=w1) (L:=S.way.eraseIdx i) (v:=.slice (some ⟨gw,0,none⟩) (m - 1) cw) (M:=w.heap.size) ⟨z1,fun x hx hfx=>gr1.block x hx (fun e=>by
  simp only [Option.some.injEq] at e
  subst e
  exact hfx.2 HL.out.2.2.1.2)⟩ ⟨Nat.le_refl _,z1⟩ (by rw [HL.out.2.2.2,HM.out];exact own1) (fun q hq=>.inl hq))
 have K1:Kept f w (w1.setCell ⟨t,3,none⟩ (.slice (some ⟨gw,0,none⟩) (m - 1) cw)):=⟨gr1.os,gr1.tape,gr1.output,by simpa using z1,fun x hx hfx=>(Below.heap_setCell _ _ _ _ (fun e=>hfx (by rw [show x=t from e];exact HL.out.2.1))).trans (gr1.block x hx (fun e=>hfx (by simp only [Option.some.injEq] at e;subst e;exact HL.out.2.2.1.1)))⟩
 have HK:=Lib.hid K1
 clear own1 gr1 K1
 go_wp2_with fail
 go_ret
 exact ⟨rfl,⟨_,⟨_,_,_,_,_,_,_,_,_,HS.out⟩,fun x hx=>hx.elim (fun h=>h) (fun h=>by omega)⟩,HK.out⟩
end Go.Proofs.YtnaebigoknfndaaGreatDoor
