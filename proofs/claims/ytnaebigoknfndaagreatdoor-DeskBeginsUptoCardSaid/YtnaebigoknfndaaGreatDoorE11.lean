/- What the desk's two laws lean on: part 11 (contracts and plain laws; their conditions stand in each). -/
import Derived.Test.YtnaebigoknfndaaGreatDoorE01
import Derived.Test.YtnaebigoknfndaaGreatDoorE08
import Derived.Test.YtnaebigoknfndaaGreatDoorE04
import Derived.Test.YtnaebigoknfndaaGreatDoorE05
set_option linter.unusedVariables false
set_option linter.unusedSimpArgs false
set_option maxRecDepth 100000
set_option maxHeartbeats 20000000
namespace Go.Proofs.YtnaebigoknfndaaGreatDoor
open Go.RowKit
def newP (id:ByteArray) (size first now:Int):Peer:=⟨id,0,0,0,size,[first],now⟩
theorem newP_ok {id:ByteArray} {size first now:Int} (hid:IdOK (byts id)) (hs:1≤size∧size≤64) (hf:0≤first∧first≤16777216) (hn:0≤now∧now≤1073741824):PeerOK (newP id size first now):=
 ⟨hid,⟨by simp [newP],by simp [newP],by simp [newP],by simp [newP],by simp [newP],by simp [newP],by simp [newP]⟩,⟨hs.1,hs.2,by simp [newP];omega,Btw.one hf.1 hf.2⟩,hn⟩
theorem TabOK.vals {L:List Peer} (h:TabOK L):∀ k,k<L.length→(L.getD k default).vals.length≤64:=fun k hk=>by
 have h1:=(tab_good h k hk).1.win
 have:=h1.2.1
 have:=h1.2.2.1
 omega
def Tab (w:World) (base:Nat) (A:Option Addr) (n c:Nat) (L:List Peer):Prop:=∃ xs,w.ownsRow base 193 7 (.slice A n c) n xs∧PVs w base L xs
theorem Tab.below {w w':World} {base n c:Nat} {A:Option Addr} {L:List Peer} (h:Tab w base A n c L) (hb:Below w.heap.size w w'):Tab w' base A n c L:=by
 obtain ⟨xs,h1,h2⟩:=h
 exact ⟨xs,own_below h1 hb,h2.below hb⟩
theorem Tab.mono {w:World} {base base' n c:Nat} {A:Option Addr} {L:List Peer} (h:Tab w base A n c L) (hb:base'≤base):Tab w base' A n c L:=by
 obtain ⟨xs,h1,h2⟩:=h
 exact ⟨xs,own_mono h1 hb,h2.mono hb⟩
theorem Tab.row {w:World} {base n c:Nat} {A:Option Addr} {L:List Peer} (h:Tab w base A n c L):PRow w A n L (fun b=>base≤b∧b<w.heap.size):=by
 obtain ⟨xs,h1,h2⟩:=h
 exact prow_own h1 h2 (Nat.le_refl _)
theorem Tab.lt {w:World} {base n c:Nat} {A:Option Addr} {L:List Peer} (h:Tab w base A n c L):∀ g,(Value.slice A n c).ownBlock=some g→base≤g∧g<w.heap.size:=by
 obtain ⟨xs,h1,_⟩:=h
 exact h1.lt
theorem insT_ok (A:Option Addr) (n c i B base:Nat) (L:List Peer) (p:Peer) (us:List Value) (TB:TypeId) (w:World) (h:Tab w base A n c L) (hu:PV w base p us) (hB:w.heap[B]? = some (.cells us.toArray TB (0,0))) (hBg:(Value.slice A n c).ownBlock≠some B)
  (hi:i≤n) (hn:n≤1000) (hbase:base≤w.heap.size) :
  Calls Tryz.prog 172 #[.slice A n c,.int .i64 i,.slice (some ⟨B,0,none⟩) 1 1] w fun e w'=>∃ A' c',e=.returned (.slice A' (n+1) c')∧Tab w' base A' (n+1) c' (L.take i++p :: L.drop i)∧Below base w w':=by
 obtain ⟨xs,h1,h2⟩:=h
 refine (insP_ok A n c i B base xs us TB w h1 h2.one hu.len hu.one hB hBg hi hn hbase).mono ?_
 rintro e w' ⟨A',c',rfl,h3,h4⟩
 have hne:(193:TypeId)≠3:=by decide
 have k2:=h2.grown h1 hne h4
 have ku:PV w' base p us:=hu.kept fun _ _ _ ho=>own_grown_other ho h1 hne h4
 refine ⟨A',c',rfl,⟨_,h3,?_⟩,?_⟩
 ·rw [List.append_assoc]
  exact (k2.take i).app (PVs.app (PVs.singleton ku) (k2.drop i))
 ·exact ⟨h4.os,h4.tape,h4.output,h4.size,fun k hk=>h4.block k (Nat.lt_of_lt_of_le hk hbase) (fun e=>by have:=(h1.lt _ e.symm).1;omega)⟩
theorem padd_ok (A:Option Addr) (n c:Nat) (L:List Peer) (f:Nat→Prop) (id:ByteArray) (size first now:Int) (w:World) (hr:PRow w A n L f) (h:TabOK L) (hid:IdOK (byts id)) (hs:1≤size∧size≤64) (hf:0≤first∧first≤16777216) (hnow:0≤now∧now≤1073741824)
  (hno:has L id=false) (h6:L.length<6) :
  Calls Tryz.prog 148 #[.slice A n c,.string id,.int .i64 size,.int .i64 first,.int .i64 now] w fun e w'=>∃ A' c',e=.returned (.tuple #[.slice A' (n+1) c',.int .i64 0])∧Tab w' w.heap.size A' (n+1) c' (addS (newP id size first now) L)∧Below w.heap.size w w':=by
 have hl:=hr.1
 have HC:=Lib.hid (fun w' (hr:PRow w' A n L f)=>pcheck_ok A n c L f w' hr h)
 have HI:=Lib.hid (fun w'=>id_ok id w' hid)
 have HF:=Lib.hid (fun w' (hr:PRow w' A n L f)=>find_ok A n c L f id w' hr (by omega) h.order)
 have HCo:=Lib.hid (fun w' (hr:PRow w' A n L f)=>copied_ok A n c L f w' hr (by omega) (fun k hk=>by have:=h.vals k (by omega);omega))
 have HR:=Lib.hid hr
 rw [hno] at HF
 have HP:=Lib.hid (addS_pos (newP id size first now) L)
 have hpl:=pos_le L id
 obtain ⟨P,hP⟩:∃ P,pos L id=P:=⟨_,rfl⟩
 rw [show (newP id size first now).id=id from rfl,hP] at HP
 rw [hP] at HF hpl
 obtain ⟨s1,s2⟩:=hs
 obtain ⟨fa,fb⟩:=hf
 obtain ⟨n1,n2⟩:=hnow
 have d1:decide (size<1)=false:=by simp;omega
 have d2:decide (64<size)=false:=by simp;omega
 have d3:decide (now<0)=false:=by simp;omega
 have d4:decide (1073741824<now)=false:=by simp;omega
 have n6:((n:Int)==6)=false:=by simp;omega
 have n6':¬ (n:Int)=6:=by omega
 clear hr h hid hno hP
 have qa:=alloc_cells
 have qf:=alloc_frozens
 go_enter Tryz.func148,Tryz.ntmps148
 go_wp2_with fail
 refine (HC.out _ HR.out).mono ?_
 rintro e w1 ⟨rfl,hb1⟩
 have z1:=hb1.size
 have c1:=Below.cells hb1
 have f1:=Below.frozens hb1
 try simp only [World.size_alloc,World.size_setCell,World.size_drew] at z1 c1 f1
 go_wp2_with fail
 refine (HI.out _).mono ?_
 rintro e w' ⟨rfl,rfl⟩
 go_wp2_with fail
 refine (val_ok first fa fb _).mono ?_
 rintro e w' ⟨rfl,rfl⟩
 go_wp2_with fail
 refine (HF.out _ (HR.out.below hb1)).mono ?_
 rintro e w2 ⟨rfl,hb2⟩
 have z2:=hb2.size
 have c2:=Below.cells hb2
 have f2:=Below.frozens hb2
 try simp only [World.size_alloc,World.size_setCell,World.size_drew] at z2 c2 f2
 go_wp2_with fail
 have sz2:w.heap.size≤w2.heap.size:=by omega
 have BW:=Lib.hid (show Below w.heap.size w ((w2.alloc (.cells #[.int .i64 first] 3)).alloc (.cells #[.string id,.int .i64 0,.int .i64 0,.int .i64 0,.int .i64 size,.slice (some ⟨w2.heap.size,0,none⟩) 1 1,.int .i64 now] 193)) from (by repeat (first | (with_reducible exact Below.refl _ _) | (with_reducible refine bAl ?_ _) | (with_reducible refine bSc ?_ _) | (with_reducible refine Below.drew ?_) | (with_reducible refine bTm ?_ hb2) | (with_reducible refine bTm ?_ hb1))))
 have KF:=Lib.hid (show ((w2.alloc (.cells #[.int .i64 first] 3)).alloc (.cells #[.string id,.int .i64 0,.int .i64 0,.int .i64 0,.int .i64 size,.slice (some ⟨w2.heap.size,0,none⟩) 1 1,.int .i64 now] 193)).heap[w2.heap.size]? = some (.cells #[.int .i64 first] 3 (0,0)) from (Below.heap_alloc _ _ _ (by simp)).trans (heap_alloc_new w2 _))
 have KB:=Lib.hid (show ((w2.alloc (.cells #[.int .i64 first] 3)).alloc (.cells #[.string id,.int .i64 0,.int .i64 0,.int .i64 0,.int .i64 size,.slice (some ⟨w2.heap.size,0,none⟩) 1 1,.int .i64 now] 193)).heap[w2.heap.size+1]? = some (.cells #[.string id,.int .i64 0,.int .i64 0,.int .i64 0,.int .i64 size,.slice (some ⟨w2.heap.size,0,none⟩) 1 1,.int .i64 now] 193 (0,0)) from heap_alloc_at (by simp))
 have szW:((w2.alloc (.cells #[.int .i64 first] 3)).alloc (.cells #[.string id,.int .i64 0,.int .i64 0,.int .i64 0,.int .i64 size,.slice (some ⟨w2.heap.size,0,none⟩) 1 1,.int .i64 now] 193)).heap.size=w2.heap.size+2:=by simp
 generalize ((w2.alloc (.cells #[.int .i64 first] 3)).alloc (.cells #[.string id,.int .i64 0,.int .i64 0,.int .i64 0,.int .i64 size,.slice (some ⟨w2.heap.size,0,none⟩) 1 1,.int .i64 now] 193))=W at BW KF KB szW ⊢
 have cellB:∀ W':World,W'.heap[w2.heap.size+1]? = W.heap[w2.heap.size+1]?→(W'.cell? ⟨w2.heap.size+1,0,none⟩=some (.string id)∧W'.cell? ⟨w2.heap.size+1,1,none⟩=some (.int .i64 0)∧W'.cell? ⟨w2.heap.size+1,2,none⟩=some (.int .i64 0)∧W'.cell? ⟨w2.heap.size+1,3,none⟩=some (.int .i64 0)∧W'.cell? ⟨w2.heap.size+1,4,none⟩=some (.int .i64 size)∧W'.cell? ⟨w2.heap.size+1,5,none⟩=some (.slice (some ⟨w2.heap.size,0,none⟩) 1 1)∧W'.cell? ⟨w2.heap.size+1,6,none⟩=some (.int .i64 now)):=fun W' e=>by
  have e':=e.trans KB.out
  refine ⟨?_,?_,?_,?_,?_,?_,?_⟩ <;> (rw [cell_of_row _ _ _ _ _ _ e'];rfl)
 have HCB:=Lib.hid cellB
 have HPV:Hid (∀ W':World,W'.heap[w2.heap.size]? = W.heap[w2.heap.size]?→PV W' w.heap.size (newP id size first now) [.string id,.int .i64 0,.int .i64 0,.int .i64 0,.int .i64 size,.slice (some ⟨w2.heap.size,0,none⟩) 1 1,.int .i64 now]):=fun W' e=>
  ⟨_,rfl,rfl,.inr ⟨w2.heap.size,1,#[.int .i64 first],rfl,sz2,e.trans KF.out,Nat.le_refl _,by unfold maxLen;omega,rfl,rfl⟩⟩
 have HRW:=Lib.hid (HR.out.below BW.out)
 clear hb1 hb2 c1 f1 c2 f2 qa qf z1 z2 cellB
 refine wp_region_M (fun w'=>w'.cell? ⟨w2.heap.size+1,0,none⟩=some (.string id)∧w'.cell? ⟨w2.heap.size+1,1,none⟩=some (.int .i64 0)∧w'.cell? ⟨w2.heap.size+1,2,none⟩=some (.int .i64 0)∧w'.cell? ⟨w2.heap.size+1,3,none⟩=some (.int .i64 0)∧w'.cell? ⟨w2.heap.size+1,4,none⟩=some (.int .i64 size)∧w'.cell? ⟨w2.heap.size+1,5,none⟩=some (.slice (some ⟨w2.heap.size,0,none⟩) 1 1)∧w'.cell? ⟨w2.heap.size+1,6,none⟩=some (.int .i64 now)) (fun j=>decide (5≤j)) 8 rfl (by kernel_rfl) ?_
 have hH:=HCB.out W.drew rfl
 (refine wpAnyM_tk (i:=0) (v:=?_) rfl (Or.inl ⟨by rfl,?_⟩) hH ?_;(rotate_left;(intro w hSw;(try dsimp only at hSw);go_simp;try with_reducible rfl));(try simp only [Act.put,List.setIfInBounds_toArray,List.set_cons_zero,List.set_cons_succ]))
 (refine wpAnyM_tk (i:=2) (v:=?_) rfl (Or.inl ⟨by rfl,?_⟩) hH ?_;(rotate_left;(intro w hSw;(try dsimp only at hSw);go_simp;try with_reducible rfl));(try simp only [Act.put,List.setIfInBounds_toArray,List.set_cons_zero,List.set_cons_succ]))
 (refine wpAnyM_tk (i:=3) (v:=?_) rfl (Or.inl ⟨by rfl,?_⟩) hH ?_;(rotate_left;(intro w hSw;(try dsimp only at hSw);go_simp;try with_reducible rfl));(try simp only [Act.put,List.setIfInBounds_toArray,List.set_cons_zero,List.set_cons_succ]))
 refine wpAnyM_two (i:=1) (j:=4) (by kernel_rfl) rfl rfl (fun K hK=>?_) (fun K hK=>?_)
 ·go_simp
  refine (HCo.out _ (HRW.out.below (Below.drew (Below.refl _ W)))).mono ?_
  rintro e w3 ⟨A3,cc3,xs,rfl,own3,pv3,hb3⟩
  have z3:=hb3.size
  have z3':w2.heap.size+2≤w3.heap.size:=by rw [← szW];exact z3
  have e1:w3.heap[w2.heap.size+1]? = W.heap[w2.heap.size+1]?:=hb3.block _ (by show _<W.heap.size;omega)
  have e0:w3.heap[w2.heap.size]? = W.heap[w2.heap.size]?:=hb3.block _ (by show _<W.heap.size;omega)
  have T3:Tab w3 W.heap.size A3 n cc3 L:=⟨xs,own3,pv3⟩
  have N3:=T3.lt
  go_simp
  refine hK _ _ (fun _=>HCB.out w3 e1) ?_
  clear hK K
  refine wpAnyM_one (i:=4) (by kernel_rfl) rfl (fun K hK=>?_)
  go_simp
  have T4:=Lib.hid ((T3.below ((Below.refl _ w3).alloc (Nat.le_refl _) (.cells #[.string id,.int .i64 0,.int .i64 0,.int .i64 0,.int .i64 size,.slice (some ⟨w2.heap.size,0,none⟩) 1 1,.int .i64 now] 193))).mono (show w.heap.size≤W.heap.size by omega))
  have V4:=Lib.hid (HPV.out (w3.alloc (.cells #[.string id,.int .i64 0,.int .i64 0,.int .i64 0,.int .i64 size,.slice (some ⟨w2.heap.size,0,none⟩) 1 1,.int .i64 now] 193)) ((Below.heap_alloc _ _ _ (by omega)).trans e0))
  have G4:=Lib.hid (heap_alloc_at (w:=w3) (o:=(.cells #[.string id,.int .i64 0,.int .i64 0,.int .i64 0,.int .i64 size,.slice (some ⟨w2.heap.size,0,none⟩) 1 1,.int .i64 now] 193)) rfl)
  have N4:Hid ((Value.slice A3 n cc3).ownBlock≠some w3.heap.size):=fun e=>by have:=(N3 _ e).2;omega
  have B4:=Lib.hid ((BW.out.trans ((Below.drew (Below.refl _ W)).trans (hb3.mono (show w.heap.size≤W.heap.size by omega)))).alloc (show w.heap.size≤w3.heap.size by omega) (.cells #[.string id,.int .i64 0,.int .i64 0,.int .i64 0,.int .i64 size,.slice (some ⟨w2.heap.size,0,none⟩) 1 1,.int .i64 now] 193))
  have zz4:(w3.alloc (.cells #[.string id,.int .i64 0,.int .i64 0,.int .i64 0,.int .i64 size,.slice (some ⟨w2.heap.size,0,none⟩) 1 1,.int .i64 now] 193)).heap.size=w3.heap.size+1:=by simp
  have E1:=Lib.hid (HCB.out (w3.alloc (.cells #[.string id,.int .i64 0,.int .i64 0,.int .i64 0,.int .i64 size,.slice (some ⟨w2.heap.size,0,none⟩) 1 1,.int .i64 now] 193)) ((Below.heap_alloc _ _ _ (by omega)).trans e1))
  clear T3 own3 pv3 hb3
  generalize w3.alloc (.cells #[.string id,.int .i64 0,.int .i64 0,.int .i64 0,.int .i64 size,.slice (some ⟨w2.heap.size,0,none⟩) 1 1,.int .i64 now] 193)=w4 at T4 V4 G4 B4 zz4 E1 ⊢
  refine hK _ _ (fun _=>E1.out) ?_
  clear hK K
  refine wpAnyM_one (i:=5) (by kernel_rfl) rfl (fun K hK=>?_)
  go_simp
  refine (insT_ok A3 n cc3 P w3.heap.size w.heap.size L (newP id size first now) [.string id,.int .i64 0,.int .i64 0,.int .i64 0,.int .i64 size,.slice (some ⟨w2.heap.size,0,none⟩) 1 1,.int .i64 now] 193 w4 T4.out V4.out G4.out N4.out (by omega) (by omega) (by omega)).mono ?_
  rintro e w5 ⟨A5,cc5,rfl,T5,hb5⟩
  have HT5:=Lib.hid T5
  have HB5:=Lib.hid (B4.out.trans hb5)
  clear T5 hb5
  go_simp
  refine hK _ _ (fun h=>by cases h) ?_
  clear hK K
  refine wpAnyM_one (i:=6) (by kernel_rfl) rfl (fun K hK=>?_)
  go_simp
  refine hK _ _ (fun h=>by cases h) ?_
  clear hK K
  refine wpAnyM_one (i:=7) (by kernel_rfl) rfl (fun K hK=>?_)
  go_simp
  refine hK _ _ (fun h=>by cases h) ?_
  clear hK K
  refine wpAnyM_done (by kernel_rfl) ?_ _
  go_wp2_with fail
  go_ret2
  exact ⟨A5,cc5,rfl,by rw [HP.out];exact HT5.out,HB5.out⟩
 ·go_simp
  have e1:((W.alloc (.cells #[.string id,.int .i64 0,.int .i64 0,.int .i64 0,.int .i64 size,.slice (some ⟨w2.heap.size,0,none⟩) 1 1,.int .i64 now] 193)).drew).heap[w2.heap.size+1]? = W.heap[w2.heap.size+1]?:=Below.heap_alloc W _ _ (by omega)
  have e0:((W.alloc (.cells #[.string id,.int .i64 0,.int .i64 0,.int .i64 0,.int .i64 size,.slice (some ⟨w2.heap.size,0,none⟩) 1 1,.int .i64 now] 193)).drew).heap[w2.heap.size]? = W.heap[w2.heap.size]?:=Below.heap_alloc W _ _ (by omega)
  have eB:((W.alloc (.cells #[.string id,.int .i64 0,.int .i64 0,.int .i64 0,.int .i64 size,.slice (some ⟨w2.heap.size,0,none⟩) 1 1,.int .i64 now] 193)).drew).heap[W.heap.size]? = some (.cells #[.string id,.int .i64 0,.int .i64 0,.int .i64 0,.int .i64 size,.slice (some ⟨w2.heap.size,0,none⟩) 1 1,.int .i64 now] 193 (0,0)):=heap_alloc_new W _
  have zz3:((W.alloc (.cells #[.string id,.int .i64 0,.int .i64 0,.int .i64 0,.int .i64 size,.slice (some ⟨w2.heap.size,0,none⟩) 1 1,.int .i64 now] 193)).drew).heap.size=W.heap.size+1:=by show (W.alloc _).heap.size=_;simp
  have b3:Below W.heap.size W ((W.alloc (.cells #[.string id,.int .i64 0,.int .i64 0,.int .i64 0,.int .i64 size,.slice (some ⟨w2.heap.size,0,none⟩) 1 1,.int .i64 now] 193)).drew):=((Below.refl _ W).alloc (Nat.le_refl _) _).drew
  generalize (W.alloc (.cells #[.string id,.int .i64 0,.int .i64 0,.int .i64 0,.int .i64 size,.slice (some ⟨w2.heap.size,0,none⟩) 1 1,.int .i64 now] 193)).drew=w3 at e1 e0 eB zz3 b3 ⊢
  refine hK _ _ (fun _=>HCB.out w3 e1) ?_
  clear hK K
  refine wpAnyM_one (i:=1) (by kernel_rfl) rfl (fun K hK=>?_)
  go_simp
  refine (HCo.out _ (HRW.out.below b3)).mono ?_
  rintro e w4 ⟨A3,cc3,xs,rfl,own3,pv3,hb3⟩
  have z3:=hb3.size
  have T3:Tab w4 w3.heap.size A3 n cc3 L:=⟨xs,own3,pv3⟩
  have N3:=T3.lt
  have T4:=Lib.hid (T3.mono (show w.heap.size≤w3.heap.size by omega))
  have V4:=Lib.hid (HPV.out w4 ((hb3.block _ (by omega)).trans e0))
  have G4:Hid (w4.heap[w2.heap.size+2]? = some (.cells #[.string id,.int .i64 0,.int .i64 0,.int .i64 0,.int .i64 size,.slice (some ⟨w2.heap.size,0,none⟩) 1 1,.int .i64 now] 193 (0,0))):=(hb3.block _ (by omega)).trans (by rw [← szW];exact eB)
  have N4:Hid ((Value.slice A3 n cc3).ownBlock≠some (w2.heap.size+2)):=fun e=>by have:=(N3 _ e).1;omega
  have B4:=Lib.hid ((BW.out.trans (b3.mono (show w.heap.size≤W.heap.size by omega))).trans (hb3.mono (show w.heap.size≤w3.heap.size by omega)))
  have E1:=Lib.hid (HCB.out w4 ((hb3.block _ (by omega)).trans e1))
  clear T3 own3 pv3 hb3 b3 eB
  go_simp
  refine hK _ _ (fun _=>E1.out) ?_
  clear hK K
  refine wpAnyM_one (i:=5) (by kernel_rfl) rfl (fun K hK=>?_)
  go_simp
  refine (insT_ok A3 n cc3 P (w2.heap.size+2) w.heap.size L (newP id size first now) [.string id,.int .i64 0,.int .i64 0,.int .i64 0,.int .i64 size,.slice (some ⟨w2.heap.size,0,none⟩) 1 1,.int .i64 now] 193 w4 T4.out V4.out G4.out N4.out (by omega) (by omega) (by omega)).mono ?_
  rintro e w5 ⟨A5,cc5,rfl,T5,hb5⟩
  have HT5:=Lib.hid T5
  have HB5:=Lib.hid (B4.out.trans hb5)
  clear T5 hb5
  go_simp
  refine hK _ _ (fun h=>by cases h) ?_
  clear hK K
  refine wpAnyM_one (i:=6) (by kernel_rfl) rfl (fun K hK=>?_)
  go_simp
  refine hK _ _ (fun h=>by cases h) ?_
  clear hK K
  refine wpAnyM_one (i:=7) (by kernel_rfl) rfl (fun K hK=>?_)
  go_simp
  refine hK _ _ (fun h=>by cases h) ?_
  clear hK K
  refine wpAnyM_done (by kernel_rfl) ?_ _
  go_wp2_with fail
  go_ret2
  exact ⟨A5,cc5,rfl,by rw [HP.out];exact HT5.out,HB5.out⟩
end Go.Proofs.YtnaebigoknfndaaGreatDoor
namespace Go.Proofs.YtnaebigoknfndaaGreatDoor
open Go.RowKit
end Go.Proofs.YtnaebigoknfndaaGreatDoor
namespace Go.Proofs.YtnaebigoknfndaaGreatDoor
open Go.RowKit
def TabF (w:World) (base g n c P:Nat) (X1 u X2:List Value):Prop:=w.ownsRow base 193 7 (.slice (some ⟨g,0,none⟩) n c) n (X1++u++X2)∧X1.length=P * 7∧u.length=7
theorem TabF.heap {w:World} {base g n c P:Nat} {X1 u X2:List Value} (h:TabF w base g n c P X1 u X2):∃ cur,w.heap[g]? = some (.cells cur 193 (0,0))∧base≤g∧n≤c∧c≤maxLen∧cur.size=c * 7∧cur.toList.take (n * 7)=X1++u++X2:=by
 obtain ⟨h1,h2,h3⟩:=h
 rcases h1.2 with ⟨h,_⟩ | ⟨g',c',cur,h,hbg,hg,hnc,hcm,hcs,htk⟩
 ·cases h
 simp only [Value.slice.injEq,Option.some.injEq,Addr.mk.injEq,and_true,true_and] at h
 obtain ⟨rfl,rfl⟩:=h
 exact ⟨cur,hg,hbg,hnc,hcm,hcs,htk⟩
theorem TabF.lt {w:World} {base g n c P:Nat} {X1 u X2:List Value} (h:TabF w base g n c P X1 u X2):g<w.heap.size∧base≤g:=by
 obtain ⟨cur,hg,hb,_⟩:=h.heap
 exact ⟨(Array.getElem?_eq_some_iff.1 hg).1,hb⟩
theorem TabF.cell {w:World} {base g n c P:Nat} {X1 u X2:List Value} (h:TabF w base g n c P X1 u X2) {i:Nat} {v:Value} (hi:u[i]? = some v):w.cell? ⟨g,P * 7+i,none⟩=some v:=by
 have hl:=h.2.1
 have:=h.1.cells (g:=g) rfl (P * 7+i) v (by
  have hil:=(List.getElem?_eq_some_iff.1 hi).1
  rw [List.append_assoc,List.getElem?_append_right (by omega),hl,show P * 7+i - P * 7=i by omega,List.getElem?_append_left hil];exact hi)
 rw [Go.WideShapes.add_plain,Nat.zero_add] at this
 exact this
theorem TabF.frozen {w:World} {base g n c P:Nat} {X1 u X2:List Value} (h:TabF w base g n c P X1 u X2) (o:Nat):w.frozen? ⟨g,o,none⟩=false:=by
 obtain ⟨cur,hg,_⟩:=h.heap
 exact (block_cells hg).2 o
theorem TabF.below {w w':World} {base g n c P:Nat} {X1 u X2:List Value} (h:TabF w base g n c P X1 u X2) (hb:Below w.heap.size w w'):TabF w' base g n c P X1 u X2:=⟨own_below h.1 hb,h.2⟩
theorem TabF.set {w:World} {base g n c P:Nat} {X1 u X2:List Value} (h:TabF w base g n c P X1 u X2) (i:Nat) (hi:i<7) (v:Value):TabF (w.setCell ⟨g,P * 7+i,none⟩ v) base g n c P X1 (u.set i v) X2:=by
 obtain ⟨cur,hg,hb,hnc,hcm,hcs,htk⟩:=h.heap
 obtain ⟨h1,h2,h3⟩:=h
 have hl:=h1.1
 refine ⟨⟨by simpa using hl,.inr ⟨g,c,cur.setIfInBounds (P * 7+i) v,rfl,hb,by simp [World.setCell,Array.getElem?_modify,hg],hnc,hcm,by simpa using hcs,?_⟩⟩,h2,by simpa using h3⟩
 simp only [List.length_append] at hl
 rw [Array.toList_setIfInBounds,List.take_set,htk]
 rw [List.append_assoc,List.set_append_right _ _ (by omega),h2,show P * 7+i - P * 7=i by omega,List.set_append_left _ _ (by omega),List.append_assoc]
theorem Tab.focus {w:World} {base n c P:Nat} {A:Option Addr} {L:List Peer} (h:Tab w base A n c L) (hP:P<L.length):∃ g X1 u X2,A=some ⟨g,0,none⟩∧TabF w base g n c P X1 u X2∧PVs w base (L.take P) X1∧PV w base (L.getD P default) u∧PVs w base (L.drop (P+1)) X2:=by
 obtain ⟨xs,h1,h2⟩:=h
 have hxl:=h1.1
 have hpl:=h2.len
 obtain ⟨g,cap,hv,hcap,_⟩:=h1.form (by omega)
 simp only [Value.slice.injEq,true_and] at hv
 obtain ⟨rfl,rfl⟩:=hv
 have h3:=h2.drop P
 rw [List.drop_eq_getElem_cons hP] at h3
 obtain ⟨u,r,e,hu,hr⟩:=h3
 have hul:=hu.len
 have er:r=xs.drop ((P+1) * 7):=by
  have:=congrArg (List.drop 7) e
  rw [List.drop_drop,List.drop_append,List.drop_of_length_le (l:=u) (by omega),hul,Nat.sub_self,List.drop_zero,List.nil_append] at this
  rw [← this];congr 1;omega
 refine ⟨g,xs.take (P * 7),u,xs.drop ((P+1) * 7),rfl,⟨?_,by rw [List.length_take];omega,hul⟩,h2.take P,by simpa [List.getD_eq_getElem?_getD,hP] using hu,h2.drop (P+1)⟩
 rw [List.append_assoc,← er,← e,List.take_append_drop]
 exact h1
theorem Tab.unfocus {w:World} {base g n c P:Nat} {X1 u X2:List Value} {L:List Peer} {p:Peer} (h:TabF w base g n c P X1 u X2) (h1:PVs w base (L.take P) X1) (hu:PV w base p u) (h2:PVs w base (L.drop (P+1)) X2) (hP:P<L.length):Tab w base (some ⟨g,0,none⟩) n c (L.set P p):=by
 refine ⟨_,h.1,?_⟩
 have e:L.set P p=L.take P++p :: L.drop (P+1):=by
  rw [List.set_eq_take_append_cons_drop,if_pos hP]
 rw [e,List.append_assoc]
 exact h1.app (PVs.app (L:=[p]) (PVs.singleton hu) h2)
theorem own_tset {w:World} {base base' g n c P n2:Nat} {X1 u X2:List Value} {v:Value} {xs:List Value} (h:TabF w base g n c P X1 u X2) (ho:w.ownsRow base' 3 1 v n2 xs) (o:Nat) (x:Value):(w.setCell ⟨g,o,none⟩ x).ownsRow base' 3 1 v n2 xs:=by
 obtain ⟨cur,hg,_⟩:=h.heap
 exact own_other ho hg (by decide) (fun b _ hne=>Below.heap_setCell _ _ _ _ hne)
end Go.Proofs.YtnaebigoknfndaaGreatDoor
namespace Go.Proofs.YtnaebigoknfndaaGreatDoor
open Go.RowKit
theorem newer_cases {p:Peer} {i s:Int} (h:newer p i s=true):p.inc<i∨i=p.inc∧p.seq<s:=by
 unfold newer at h
 simpa using h
theorem older_cases {p:Peer} {i s:Int} (h:newer p i s=false):i<p.inc∨i=p.inc∧s≤p.seq:=by
 unfold newer at h
 simp only [Bool.or_eq_false_iff,Bool.and_eq_false_iff,decide_eq_false_iff_not] at h
 omega
theorem hear_old (A:Option Addr) (n c:Nat) (L:List Peer) (f:Nat→Prop) (id:ByteArray) (i s now:Int) (p:Peer) (w:World) (hr:PRow w A n L f) (h:TabOK L) (hid:IdOK (byts id)) (hi:0≤i∧i<2147483648) (hs:1≤s∧s<2147483648) (hnow:0≤now∧now≤1073741824)
  (hb:has L id=true) (hp:L.getD (pos L id) default=p) (hlast:p.last≤now) (hold:newer p i s=false) :
  Calls Tryz.prog 152 #[.slice A n c,.agg #[.string id,.int .i64 i,.int .i64 s],.int .i64 now] w fun e w'=>∃ A' c',e=.returned (.tuple #[.slice A' n c',.bool false,.int .i64 0])∧Tab w' w.heap.size A' n c' (hearS L id i s now)∧Below w.heap.size w w':=by
 have hl:=hr.1
 have h6:=h.len
 have hHS:hearS L id i s now=L.set (pos L id) { p with drops:=if p.drops=1073741824 then p.drops else p.drops+1 }:=by unfold hearS heardP;rw [hp,hold];rfl
 have hPl:pos L id<L.length:=by unfold has at hb;simp at hb;exact hb.1
 have hpm:=(tab_good h _ hPl).1
 rw [hp] at hpm
 have HC:=Lib.hid (fun w' (hr:PRow w' A n L f)=>pcheck_ok A n c L f w' hr h)
 have HBc:=Lib.hid (fun w'=>bcheck_ok id i s w' hid hi hs)
 have HF:=Lib.hid (fun w' (hr:PRow w' A n L f)=>find_ok A n c L f id w' hr (by omega) h.order)
 have HCo:=Lib.hid (fun w' (hr:PRow w' A n L f)=>copied_ok A n c L f w' hr (by omega) (fun k hk=>by have:=h.vals k (by omega);omega))
 obtain ⟨i1,i2⟩:=hi
 obtain ⟨s1,s2⟩:=hs
 have HT:=Lib.hid (fun w'=>take_old p.inc p.seq p.drops i s _ hpm.gate i1 i2 s1 s2 (older_cases hold) rfl w')
 have HR:=Lib.hid hr
 rw [hb] at HF
 obtain ⟨P,hP⟩:∃ P,pos L id=P:=⟨_,rfl⟩
 rw [hP] at HF hPl hHS hp
 obtain ⟨D,hD⟩:∃ D,(if p.drops=1073741824 then p.drops else p.drops+1)=D:=⟨_,rfl⟩
 rw [hD] at HT hHS
 have HHS:=Lib.hid hHS
 have Hp:=Lib.hid hp
 obtain ⟨n1,n2⟩:=hnow
 have d3:decide (now<0)=false:=by simp;omega
 have d4:decide (1073741824<now)=false:=by simp;omega
 have d5:¬ now<p.last:=by omega
 have hPn:P<n:=by omega
 clear hr h hid hb hP hpm hD hHS hp hold
 have qa:=alloc_cells
 have qf:=alloc_frozens
 go_enter Tryz.func152,Tryz.ntmps152
 go_wp2_with fail
 refine (HC.out _ (HR.out.below (by repeat (first | (with_reducible exact Below.refl _ _) | (with_reducible refine bAl ?_ _) | (with_reducible refine bSc ?_ _) | (with_reducible refine Below.drew ?_) | (refine Below.trans ?_ (by assumption)))))).mono ?_
 rintro e w1 ⟨rfl,hb1⟩
 have z1:=hb1.size
 have c1:=Below.cells hb1
 have f1:=Below.frozens hb1
 try simp only [World.size_alloc,World.size_setCell,World.size_drew] at z1 c1 f1
 go_wp2_with fail
 refine (HBc.out _).mono ?_
 rintro e w2 ⟨rfl,hb2⟩
 have z2:=hb2.size
 have c2:=Below.cells hb2
 have f2:=Below.frozens hb2
 try simp only [World.size_alloc,World.size_setCell,World.size_drew] at z2 c2 f2
 go_wp2_with fail
 refine (HF.out _ (HR.out.below (by repeat (first | (with_reducible exact Below.refl _ _) | (with_reducible refine bAl ?_ _) | (with_reducible refine bSc ?_ _) | (with_reducible refine Below.drew ?_) | (with_reducible refine bTm ?_ hb2) | (with_reducible refine bTm ?_ hb1))))).mono ?_
 rintro e w3 ⟨rfl,hb3⟩
 have z3:=hb3.size
 have c3:=Below.cells hb3
 have f3:=Below.frozens hb3
 try simp only [World.size_alloc,World.size_setCell,World.size_drew] at z3 c3 f3
 go_wp2_with fail
 refine (HCo.out _ (HR.out.below (by repeat (first | (with_reducible exact Below.refl _ _) | (with_reducible refine bAl ?_ _) | (with_reducible refine bSc ?_ _) | (with_reducible refine Below.drew ?_) | (with_reducible refine bTm ?_ hb3) | (with_reducible refine bTm ?_ hb2) | (with_reducible refine bTm ?_ hb1))))).mono ?_
 rintro e w4 ⟨A4,cc4,xs,rfl,own4,pv4,hb4⟩
 obtain ⟨g,X1,u,X2,rfl,TF,P1,PU,P2⟩:=Tab.focus (P:=P) (show Tab w4 w3.heap.size A4 n cc4 L from ⟨xs,own4,pv4⟩) hPl
 rw [Hp.out] at PU
 obtain ⟨v,rfl,ov⟩:=PU
 obtain ⟨B,bc,rfl,_,_,_⟩:=own_form ov
 have z4:=hb4.size
 have c4:=Below.cells hb4
 have f4:=Below.frozens hb4
 try simp only [World.size_alloc,World.size_setCell,World.size_drew] at z4 c4 f4
 have m0:w4.cell? ⟨w.heap.size,0,none⟩=some (.string id):=by simp [go_sem,↓IntWalk.iteOmega, *]
 have m1:w4.cell? ⟨w.heap.size,1,none⟩=some (.int .i64 i):=by simp [go_sem,↓IntWalk.iteOmega, *]
 have m2:w4.cell? ⟨w.heap.size,2,none⟩=some (.int .i64 s):=by simp [go_sem,↓IntWalk.iteOmega, *]
 have BL:=Lib.hid (show Below w.heap.size w w4 from (by repeat (first | (with_reducible exact Below.refl _ _) | (with_reducible refine bAl ?_ _) | (with_reducible refine bSc ?_ _) | (with_reducible refine Below.drew ?_) | (with_reducible refine bTm ?_ hb4) | (with_reducible refine bTm ?_ hb3) | (with_reducible refine bTm ?_ hb2) | (with_reducible refine bTm ?_ hb1))))
 have sz4:w.heap.size+1≤w3.heap.size:=by omega
 clear c1 c2 c3 c4 f1 f2 f3 f4 qa qf hb1 hb2 hb3 hb4 z1 z2 z3
 have k1:=TF.cell (i:=1) rfl
 have k2:=TF.cell (i:=2) rfl
 have k3:=TF.cell (i:=3) rfl
 have k6:=TF.cell (i:=6) rfl
 have kf:=TF.frozen
 have gl:=TF.lt
 have HTF:=Lib.hid TF
 have HP1:=Lib.hid P1
 have HP2:=Lib.hid P2
 have HOv:=Lib.hid ov
 clear TF P1 P2 ov own4 pv4
 obtain ⟨gl1,gl2⟩:=gl
 go_wp2_with fail
 have k0:w4.drew.cell? ⟨g,P * 7+1,none⟩=some (.int .i64 p.inc)∧w4.drew.cell? ⟨g,P * 7+1+1,none⟩=some (.int .i64 p.seq)∧w4.drew.cell? ⟨g,P * 7+1+2,none⟩=some (.int .i64 p.drops)∧w4.drew.cell? ⟨w.heap.size,1,none⟩=some (.int .i64 i)∧w4.drew.cell? ⟨w.heap.size,2,none⟩=some (.int .i64 s):=⟨k1,k2,k3,m1,m2⟩
 refine wp_region_A 18 rfl (by kernel_rfl) ?_
 (refine wpAny_take (i:=0) (v:=?_) rfl (by kernel_rfl) (by kernel_rfl) (by kernel_rfl) (fun _ _ _ h=>h) (Or.inl ⟨by rfl,?_⟩) ?_;(rotate_left;(intro w;go_simp;try with_reducible rfl)))
 refine wpAny_of_M (S:=fun w'=>w'.cell? ⟨g,P * 7+1,none⟩=some (.int .i64 p.inc)∧w'.cell? ⟨g,P * 7+1+1,none⟩=some (.int .i64 p.seq)∧w'.cell? ⟨g,P * 7+1+2,none⟩=some (.int .i64 p.drops)∧w'.cell? ⟨w.heap.size,1,none⟩=some (.int .i64 i)∧w'.cell? ⟨w.heap.size,2,none⟩=some (.int .i64 s)) (D:=fun j=>decide (11≤j)) _ _ _ _ ?_
 (refine wpAnyM_tk (i:=1) (v:=?_) rfl (Or.inl ⟨by rfl,?_⟩) k0 ?_;(rotate_left;(intro w hSw;(try dsimp only at hSw);go_simp;try with_reducible rfl));(try simp only [Act.put,List.setIfInBounds_toArray,List.set_cons_zero,List.set_cons_succ]))
 (refine wpAnyM_tk (i:=2) (v:=?_) rfl (Or.inl ⟨by rfl,?_⟩) k0 ?_;(rotate_left;(intro w hSw;(try dsimp only at hSw);go_simp;try with_reducible rfl));(try simp only [Act.put,List.setIfInBounds_toArray,List.set_cons_zero,List.set_cons_succ]))
 (refine wpAnyM_tk (i:=3) (v:=?_) rfl (Or.inl ⟨by rfl,?_⟩) k0 ?_;(rotate_left;(intro w hSw;(try dsimp only at hSw);go_simp;try with_reducible rfl));(try simp only [Act.put,List.setIfInBounds_toArray,List.set_cons_zero,List.set_cons_succ]))
 (refine wpAnyM_tk (i:=4) (v:=?_) rfl (Or.inl ⟨by rfl,?_⟩) k0 ?_;(rotate_left;(intro w hSw;(try dsimp only at hSw);go_simp;try with_reducible rfl));(try simp only [Act.put,List.setIfInBounds_toArray,List.set_cons_zero,List.set_cons_succ]))
 (refine wpAnyM_tk (i:=5) (v:=?_) rfl (Or.inl ⟨by rfl,?_⟩) k0 ?_;(rotate_left;(intro w hSw;(try dsimp only at hSw);go_simp;try with_reducible rfl));(try simp only [Act.put,List.setIfInBounds_toArray,List.set_cons_zero,List.set_cons_succ]))
 (refine wpAnyM_tk (i:=6) (v:=?_) rfl (Or.inl ⟨by rfl,?_⟩) k0 ?_;(rotate_left;(intro w hSw;(try dsimp only at hSw);go_simp;try with_reducible rfl));(try simp only [Act.put,List.setIfInBounds_toArray,List.set_cons_zero,List.set_cons_succ]))
 (refine wpAnyM_tk (i:=7) (v:=?_) rfl (Or.inl ⟨by rfl,?_⟩) k0 ?_;(rotate_left;(intro w hSw;(try dsimp only at hSw);go_simp;try with_reducible rfl));(try simp only [Act.put,List.setIfInBounds_toArray,List.set_cons_zero,List.set_cons_succ]))
 (refine wpAnyM_tk (i:=8) (v:=?_) rfl (Or.inl ⟨by rfl,?_⟩) k0 ?_;(rotate_left;(intro w hSw;(try dsimp only at hSw);go_simp;try with_reducible rfl));(try simp only [Act.put,List.setIfInBounds_toArray,List.set_cons_zero,List.set_cons_succ]))
 refine wpAnyM_one (i:=9) (by kernel_rfl) rfl (fun K hK=>?_)
 go_simp
 refine (HT.out _).mono ?_
 rintro e w5 ⟨rfl,hb5⟩
 have z5:=hb5.size
 have hb5':Below w4.heap.size w4 w5:=(Below.drew (Below.refl _ w4)).trans hb5
 have TF5:=HTF.out.below hb5'
 have P15:=Lib.hid (HP1.out.below hb5')
 have P25:=Lib.hid (HP2.out.below hb5')
 have Ov5:=Lib.hid (own_below HOv.out hb5')
 have B5:=Lib.hid (BL.out.trans (hb5'.mono (by omega)))
 have zz5:=hb5'.size
 have m15:w5.cell? ⟨w.heap.size,1,none⟩=some (.int .i64 i):=(hb5'.cell (p:=⟨w.heap.size,1,none⟩) (by show w.heap.size<_;omega)).trans m1
 have m25:w5.cell? ⟨w.heap.size,2,none⟩=some (.int .i64 s):=(hb5'.cell (p:=⟨w.heap.size,2,none⟩) (by show w.heap.size<_;omega)).trans m2
 clear hb5 hb5' k0 k1 k2 k3 k6 kf m0 m1 m2
 have k1:=TF5.cell (i:=1) rfl
 have k2:=TF5.cell (i:=2) rfl
 have k3:=TF5.cell (i:=3) rfl
 have k6:=TF5.cell (i:=6) rfl
 have kf:=TF5.frozen
 have HTF5:=Lib.hid TF5
 clear TF5
 go_simp
 refine hK _ _ (fun _=>⟨k1,k2,k3,m15,m25⟩) ?_
 clear hK K
 have k0:w5.cell? ⟨g,P * 7+1,none⟩=some (.int .i64 p.inc)∧w5.cell? ⟨g,P * 7+1+1,none⟩=some (.int .i64 p.seq)∧w5.cell? ⟨g,P * 7+1+2,none⟩=some (.int .i64 p.drops)∧w5.cell? ⟨w.heap.size,1,none⟩=some (.int .i64 i)∧w5.cell? ⟨w.heap.size,2,none⟩=some (.int .i64 s):=⟨k1,k2,k3,m15,m25⟩
 (refine wpAnyM_tk (i:=10) (v:=?_) rfl (Or.inl ⟨by rfl,?_⟩) k0 ?_;(rotate_left;(intro w hSw;(try dsimp only at hSw);go_simp;try with_reducible rfl));(try simp only [Act.put,List.setIfInBounds_toArray,List.set_cons_zero,List.set_cons_succ]))
 refine wpAnyM_rest (by kernel_rfl) ?_
 clear k0
 (refine wpAny_take (i:=11) (v:=?_) rfl (by kernel_rfl) (by kernel_rfl) (by kernel_rfl) (fun _ _ _ h=>h) (Or.inl ⟨by rfl,?_⟩) ?_;(rotate_left;(intro w;go_simp;try with_reducible rfl)))
 (refine wpAny_take (i:=12) (v:=?_) rfl (by kernel_rfl) (by kernel_rfl) (by kernel_rfl) (fun _ _ _ h=>h) (Or.inl ⟨by rfl,?_⟩) ?_;(rotate_left;(intro w;go_simp;try with_reducible rfl)))
 (refine wpAny_take (i:=13) (v:=?_) rfl (by kernel_rfl) (by kernel_rfl) (by kernel_rfl) (fun _ _ _ h=>h) (Or.inl ⟨by rfl,?_⟩) ?_;(rotate_left;(intro w;go_simp;try with_reducible rfl)))
 (refine wpAny_take (i:=14) (v:=?_) rfl (by kernel_rfl) (by kernel_rfl) (by kernel_rfl) (fun _ _ _ h=>h) (Or.inl ⟨by rfl,?_⟩) ?_;(rotate_left;(intro w;go_simp;try with_reducible rfl)))
 (refine wpAny_take (i:=15) (v:=?_) rfl (by kernel_rfl) (by kernel_rfl) (by kernel_rfl) (fun _ _ _ h=>h) (Or.inl ⟨by rfl,?_⟩) ?_;(rotate_left;(intro w;go_simp;try with_reducible rfl)))
 refine wpAny_ready (rs:=[16]) (by kernel_rfl) (by simp) ?_
 refine AllReady.cons rfl (fun K hK=>?_) AllReady.nil
 rw [if_pos (by rfl)]
 go_simp
 refine hK _ _ ?_
 clear hK K
 (refine wpAny_take (i:=17) (v:=?_) rfl (by kernel_rfl) (by kernel_rfl) (by kernel_rfl) (fun _ _ _ h=>h) (Or.inl ⟨by rfl,?_⟩) ?_;(rotate_left;(intro w;go_simp;try with_reducible rfl)))
 refine wpAny_done (by kernel_rfl) ?_ _
 have TF6:TabF (((w5.setCell ⟨g,P * 7+1,none⟩ (.int .i64 p.inc)).setCell ⟨g,P * 7+1+1,none⟩ (.int .i64 p.seq)).setCell ⟨g,P * 7+1+2,none⟩ (.int .i64 D)) w3.heap.size g n cc4 P X1 [.string p.id,.int .i64 p.inc,.int .i64 p.seq,.int .i64 D,.int .i64 p.cap,.slice B p.vals.length bc,.int .i64 p.last] X2:=((HTF5.out.set 1 (by omega) (.int .i64 p.inc)).set 2 (by omega) (.int .i64 p.seq)).set 3 (by omega) (.int .i64 D)
 have keep:∀ v n xs,w5.ownsRow w3.heap.size 3 1 v n xs→(((w5.setCell ⟨g,P * 7+1,none⟩ (.int .i64 p.inc)).setCell ⟨g,P * 7+1+1,none⟩ (.int .i64 p.seq)).setCell ⟨g,P * 7+1+2,none⟩ (.int .i64 D)).ownsRow w3.heap.size 3 1 v n xs:=fun v n xs ho=>
  own_tset ((HTF5.out.set 1 (by omega) (.int .i64 p.inc)).set 2 (by omega) (.int .i64 p.seq)) (own_tset (HTF5.out.set 1 (by omega) (.int .i64 p.inc)) (own_tset HTF5.out ho _ _) _ _) _ _
 have HT6:=Lib.hid ((Tab.unfocus (p:={ p with drops:=D }) TF6 (P15.out.kept keep) ⟨_,rfl,keep _ _ _ Ov5.out⟩ (P25.out.kept keep) hPl).mono (show w.heap.size≤w3.heap.size by omega))
 have HB6:=Lib.hid (((B5.out.setCell (p:=⟨g,P * 7+1,none⟩) (by show w.heap.size≤g;omega) (.int .i64 p.inc)).setCell (p:=⟨g,P * 7+1+1,none⟩) (by show w.heap.size≤g;omega) (.int .i64 p.seq)).setCell (p:=⟨g,P * 7+1+2,none⟩) (by show w.heap.size≤g;omega) (.int .i64 D))
 clear keep TF6 k1 k2 k3 k6 kf m15 m25
 go_simp
 go_wp2_with fail
 go_ret3
 exact ⟨_,cc4,rfl,by rw [HHS.out];exact HT6.out,HB6.out⟩
theorem hear_new (A:Option Addr) (n c:Nat) (L:List Peer) (f:Nat→Prop) (id:ByteArray) (i s now:Int) (p:Peer) (w:World) (hr:PRow w A n L f) (h:TabOK L) (hid:IdOK (byts id)) (hi:0≤i∧i<2147483648) (hs:1≤s∧s<2147483648) (hnow:0≤now∧now≤1073741824)
  (hb:has L id=true) (hp:L.getD (pos L id) default=p) (hlast:p.last≤now) (hold:newer p i s=true) :
  Calls Tryz.prog 152 #[.slice A n c,.agg #[.string id,.int .i64 i,.int .i64 s],.int .i64 now] w fun e w'=>∃ A' c',e=.returned (.tuple #[.slice A' n c',.bool true,.int .i64 0])∧Tab w' w.heap.size A' n c' (hearS L id i s now)∧Below w.heap.size w w':=by
 have hl:=hr.1
 have h6:=h.len
 have hHS:hearS L id i s now=L.set (pos L id) { p with inc:=i,seq:=s,vals:=pushd p.cap p.vals (min (now - p.last) 16777216),last:=now }:=by unfold hearS heardP pushd;rw [hp,hold];rfl
 have hPl:pos L id<L.length:=by unfold has at hb;simp at hb;exact hb.1
 have hpm:=(tab_good h _ hPl).1
 rw [hp] at hpm
 have HC:=Lib.hid (fun w' (hr:PRow w' A n L f)=>pcheck_ok A n c L f w' hr h)
 have HBc:=Lib.hid (fun w'=>bcheck_ok id i s w' hid hi hs)
 have HF:=Lib.hid (fun w' (hr:PRow w' A n L f)=>find_ok A n c L f id w' hr (by omega) h.order)
 have HCo:=Lib.hid (fun w' (hr:PRow w' A n L f)=>copied_ok A n c L f w' hr (by omega) (fun k hk=>by have:=h.vals k (by omega);omega))
 obtain ⟨i1,i2⟩:=hi
 obtain ⟨s1,s2⟩:=hs
 have HT:=Lib.hid (fun w'=>take_new p.inc p.seq p.drops i s hpm.gate i1 i2 s1 s2 (newer_cases hold) w')
 have HR:=Lib.hid hr
 rw [hb] at HF
 obtain ⟨P,hP⟩:∃ P,pos L id=P:=⟨_,rfl⟩
 rw [hP] at HF hPl hHS hp
 obtain ⟨D,hD⟩:∃ D,min (now - p.last) 16777216=D:=⟨_,rfl⟩
 rw [hD] at hHS
 have hDb:0≤D∧D≤16777216:=by have:=hpm.last;omega
 have HPs:=Lib.hid (fun A c w' hr=>push_ok p.cap D A p.vals.length c p.vals w' hr ⟨hpm.win.1,hpm.win.2.1⟩ hpm.win.2.2.1 hpm.win.2.2.2 hDb)
 have HD:=Lib.hid hD
 have l0:=hpm.last.1
 have HHS:=Lib.hid hHS
 have Hp:=Lib.hid hp
 obtain ⟨n1,n2⟩:=hnow
 have d3:decide (now<0)=false:=by simp;omega
 have d4:decide (1073741824<now)=false:=by simp;omega
 have d5:¬ now<p.last:=by omega
 have hPn:P<n:=by omega
 clear hr h hid hb hP hpm hD hHS hp hold
 have qa:=alloc_cells
 have qf:=alloc_frozens
 go_enter Tryz.func152,Tryz.ntmps152
 go_wp2_with fail
 refine (HC.out _ (HR.out.below (by repeat (first | (with_reducible exact Below.refl _ _) | (with_reducible refine bAl ?_ _) | (with_reducible refine bSc ?_ _) | (with_reducible refine Below.drew ?_) | (refine Below.trans ?_ (by assumption)))))).mono ?_
 rintro e w1 ⟨rfl,hb1⟩
 have z1:=hb1.size
 have c1:=Below.cells hb1
 have f1:=Below.frozens hb1
 try simp only [World.size_alloc,World.size_setCell,World.size_drew] at z1 c1 f1
 go_wp2_with fail
 refine (HBc.out _).mono ?_
 rintro e w2 ⟨rfl,hb2⟩
 have z2:=hb2.size
 have c2:=Below.cells hb2
 have f2:=Below.frozens hb2
 try simp only [World.size_alloc,World.size_setCell,World.size_drew] at z2 c2 f2
 go_wp2_with fail
 refine (HF.out _ (HR.out.below (by repeat (first | (with_reducible exact Below.refl _ _) | (with_reducible refine bAl ?_ _) | (with_reducible refine bSc ?_ _) | (with_reducible refine Below.drew ?_) | (with_reducible refine bTm ?_ hb2) | (with_reducible refine bTm ?_ hb1))))).mono ?_
 rintro e w3 ⟨rfl,hb3⟩
 have z3:=hb3.size
 have c3:=Below.cells hb3
 have f3:=Below.frozens hb3
 try simp only [World.size_alloc,World.size_setCell,World.size_drew] at z3 c3 f3
 go_wp2_with fail
 refine (HCo.out _ (HR.out.below (by repeat (first | (with_reducible exact Below.refl _ _) | (with_reducible refine bAl ?_ _) | (with_reducible refine bSc ?_ _) | (with_reducible refine Below.drew ?_) | (with_reducible refine bTm ?_ hb3) | (with_reducible refine bTm ?_ hb2) | (with_reducible refine bTm ?_ hb1))))).mono ?_
 rintro e w4 ⟨A4,cc4,xs,rfl,own4,pv4,hb4⟩
 obtain ⟨g,X1,u,X2,rfl,TF,P1,PU,P2⟩:=Tab.focus (P:=P) (show Tab w4 w3.heap.size A4 n cc4 L from ⟨xs,own4,pv4⟩) hPl
 rw [Hp.out] at PU
 obtain ⟨v,rfl,ov⟩:=PU
 obtain ⟨B,bc,rfl,_,_,_⟩:=own_form ov
 have z4:=hb4.size
 have c4:=Below.cells hb4
 have f4:=Below.frozens hb4
 try simp only [World.size_alloc,World.size_setCell,World.size_drew] at z4 c4 f4
 have m0:w4.cell? ⟨w.heap.size,0,none⟩=some (.string id):=by simp [go_sem,↓IntWalk.iteOmega, *]
 have m1:w4.cell? ⟨w.heap.size,1,none⟩=some (.int .i64 i):=by simp [go_sem,↓IntWalk.iteOmega, *]
 have m2:w4.cell? ⟨w.heap.size,2,none⟩=some (.int .i64 s):=by simp [go_sem,↓IntWalk.iteOmega, *]
 have BL:=Lib.hid (show Below w.heap.size w w4 from (by repeat (first | (with_reducible exact Below.refl _ _) | (with_reducible refine bAl ?_ _) | (with_reducible refine bSc ?_ _) | (with_reducible refine Below.drew ?_) | (with_reducible refine bTm ?_ hb4) | (with_reducible refine bTm ?_ hb3) | (with_reducible refine bTm ?_ hb2) | (with_reducible refine bTm ?_ hb1))))
 have sz4:w.heap.size+1≤w3.heap.size:=by omega
 clear c1 c2 c3 c4 f1 f2 f3 f4 qa qf hb1 hb2 hb3 hb4 z1 z2 z3
 have k1:=TF.cell (i:=1) rfl
 have k2:=TF.cell (i:=2) rfl
 have k3:=TF.cell (i:=3) rfl
 have k6:=TF.cell (i:=6) rfl
 have kf:=TF.frozen
 have gl:=TF.lt
 have HTF:=Lib.hid TF
 have HP1:=Lib.hid P1
 have HP2:=Lib.hid P2
 have HOv:=Lib.hid ov
 clear TF P1 P2 ov own4 pv4
 obtain ⟨gl1,gl2⟩:=gl
 go_wp2_with fail
 have k0:w4.drew.cell? ⟨g,P * 7+1,none⟩=some (.int .i64 p.inc)∧w4.drew.cell? ⟨g,P * 7+1+1,none⟩=some (.int .i64 p.seq)∧w4.drew.cell? ⟨g,P * 7+1+2,none⟩=some (.int .i64 p.drops)∧w4.drew.cell? ⟨w.heap.size,1,none⟩=some (.int .i64 i)∧w4.drew.cell? ⟨w.heap.size,2,none⟩=some (.int .i64 s):=⟨k1,k2,k3,m1,m2⟩
 refine wp_region_A 18 rfl (by kernel_rfl) ?_
 (refine wpAny_take (i:=0) (v:=?_) rfl (by kernel_rfl) (by kernel_rfl) (by kernel_rfl) (fun _ _ _ h=>h) (Or.inl ⟨by rfl,?_⟩) ?_;(rotate_left;(intro w;go_simp;try with_reducible rfl)))
 refine wpAny_of_M (S:=fun w'=>w'.cell? ⟨g,P * 7+1,none⟩=some (.int .i64 p.inc)∧w'.cell? ⟨g,P * 7+1+1,none⟩=some (.int .i64 p.seq)∧w'.cell? ⟨g,P * 7+1+2,none⟩=some (.int .i64 p.drops)∧w'.cell? ⟨w.heap.size,1,none⟩=some (.int .i64 i)∧w'.cell? ⟨w.heap.size,2,none⟩=some (.int .i64 s)) (D:=fun j=>decide (11≤j)) _ _ _ _ ?_
 (refine wpAnyM_tk (i:=1) (v:=?_) rfl (Or.inl ⟨by rfl,?_⟩) k0 ?_;(rotate_left;(intro w hSw;(try dsimp only at hSw);go_simp;try with_reducible rfl));(try simp only [Act.put,List.setIfInBounds_toArray,List.set_cons_zero,List.set_cons_succ]))
 (refine wpAnyM_tk (i:=2) (v:=?_) rfl (Or.inl ⟨by rfl,?_⟩) k0 ?_;(rotate_left;(intro w hSw;(try dsimp only at hSw);go_simp;try with_reducible rfl));(try simp only [Act.put,List.setIfInBounds_toArray,List.set_cons_zero,List.set_cons_succ]))
 (refine wpAnyM_tk (i:=3) (v:=?_) rfl (Or.inl ⟨by rfl,?_⟩) k0 ?_;(rotate_left;(intro w hSw;(try dsimp only at hSw);go_simp;try with_reducible rfl));(try simp only [Act.put,List.setIfInBounds_toArray,List.set_cons_zero,List.set_cons_succ]))
 (refine wpAnyM_tk (i:=4) (v:=?_) rfl (Or.inl ⟨by rfl,?_⟩) k0 ?_;(rotate_left;(intro w hSw;(try dsimp only at hSw);go_simp;try with_reducible rfl));(try simp only [Act.put,List.setIfInBounds_toArray,List.set_cons_zero,List.set_cons_succ]))
 (refine wpAnyM_tk (i:=5) (v:=?_) rfl (Or.inl ⟨by rfl,?_⟩) k0 ?_;(rotate_left;(intro w hSw;(try dsimp only at hSw);go_simp;try with_reducible rfl));(try simp only [Act.put,List.setIfInBounds_toArray,List.set_cons_zero,List.set_cons_succ]))
 (refine wpAnyM_tk (i:=6) (v:=?_) rfl (Or.inl ⟨by rfl,?_⟩) k0 ?_;(rotate_left;(intro w hSw;(try dsimp only at hSw);go_simp;try with_reducible rfl));(try simp only [Act.put,List.setIfInBounds_toArray,List.set_cons_zero,List.set_cons_succ]))
 (refine wpAnyM_tk (i:=7) (v:=?_) rfl (Or.inl ⟨by rfl,?_⟩) k0 ?_;(rotate_left;(intro w hSw;(try dsimp only at hSw);go_simp;try with_reducible rfl));(try simp only [Act.put,List.setIfInBounds_toArray,List.set_cons_zero,List.set_cons_succ]))
 (refine wpAnyM_tk (i:=8) (v:=?_) rfl (Or.inl ⟨by rfl,?_⟩) k0 ?_;(rotate_left;(intro w hSw;(try dsimp only at hSw);go_simp;try with_reducible rfl));(try simp only [Act.put,List.setIfInBounds_toArray,List.set_cons_zero,List.set_cons_succ]))
 refine wpAnyM_one (i:=9) (by kernel_rfl) rfl (fun K hK=>?_)
 go_simp
 refine (HT.out _).mono ?_
 rintro e w5 ⟨rfl,hb5⟩
 have z5:=hb5.size
 have hb5':Below w4.heap.size w4 w5:=(Below.drew (Below.refl _ w4)).trans hb5
 have TF5:=HTF.out.below hb5'
 have P15:=Lib.hid (HP1.out.below hb5')
 have P25:=Lib.hid (HP2.out.below hb5')
 have Ov5:=Lib.hid (own_below HOv.out hb5')
 have B5:=Lib.hid (BL.out.trans (hb5'.mono (by omega)))
 have zz5:=hb5'.size
 have m15:w5.cell? ⟨w.heap.size,1,none⟩=some (.int .i64 i):=(hb5'.cell (p:=⟨w.heap.size,1,none⟩) (by show w.heap.size<_;omega)).trans m1
 have m25:w5.cell? ⟨w.heap.size,2,none⟩=some (.int .i64 s):=(hb5'.cell (p:=⟨w.heap.size,2,none⟩) (by show w.heap.size<_;omega)).trans m2
 clear hb5 hb5' k0 k1 k2 k3 k6 kf m0 m1 m2
 have k1:=TF5.cell (i:=1) rfl
 have k2:=TF5.cell (i:=2) rfl
 have k3:=TF5.cell (i:=3) rfl
 have k6:=TF5.cell (i:=6) rfl
 have kf:=TF5.frozen
 have HTF5:=Lib.hid TF5
 clear TF5
 go_simp
 refine hK _ _ (fun _=>⟨k1,k2,k3,m15,m25⟩) ?_
 clear hK K
 have k0:w5.cell? ⟨g,P * 7+1,none⟩=some (.int .i64 p.inc)∧w5.cell? ⟨g,P * 7+1+1,none⟩=some (.int .i64 p.seq)∧w5.cell? ⟨g,P * 7+1+2,none⟩=some (.int .i64 p.drops)∧w5.cell? ⟨w.heap.size,1,none⟩=some (.int .i64 i)∧w5.cell? ⟨w.heap.size,2,none⟩=some (.int .i64 s):=⟨k1,k2,k3,m15,m25⟩
 (refine wpAnyM_tk (i:=10) (v:=?_) rfl (Or.inl ⟨by rfl,?_⟩) k0 ?_;(rotate_left;(intro w hSw;(try dsimp only at hSw);go_simp;try with_reducible rfl));(try simp only [Act.put,List.setIfInBounds_toArray,List.set_cons_zero,List.set_cons_succ]))
 refine wpAnyM_rest (by kernel_rfl) ?_
 clear k0
 (refine wpAny_take (i:=11) (v:=?_) rfl (by kernel_rfl) (by kernel_rfl) (by kernel_rfl) (fun _ _ _ h=>h) (Or.inl ⟨by rfl,?_⟩) ?_;(rotate_left;(intro w;go_simp;try with_reducible rfl)))
 (refine wpAny_take (i:=12) (v:=?_) rfl (by kernel_rfl) (by kernel_rfl) (by kernel_rfl) (fun _ _ _ h=>h) (Or.inl ⟨by rfl,?_⟩) ?_;(rotate_left;(intro w;go_simp;try with_reducible rfl)))
 (refine wpAny_take (i:=13) (v:=?_) rfl (by kernel_rfl) (by kernel_rfl) (by kernel_rfl) (fun _ _ _ h=>h) (Or.inl ⟨by rfl,?_⟩) ?_;(rotate_left;(intro w;go_simp;try with_reducible rfl)))
 (refine wpAny_take (i:=14) (v:=?_) rfl (by kernel_rfl) (by kernel_rfl) (by kernel_rfl) (fun _ _ _ h=>h) (Or.inl ⟨by rfl,?_⟩) ?_;(rotate_left;(intro w;go_simp;try with_reducible rfl)))
 (refine wpAny_take (i:=15) (v:=?_) rfl (by kernel_rfl) (by kernel_rfl) (by kernel_rfl) (fun _ _ _ h=>h) (Or.inl ⟨by rfl,?_⟩) ?_;(rotate_left;(intro w;go_simp;try with_reducible rfl)))
 refine wpAny_ready (rs:=[16]) (by kernel_rfl) (by simp) ?_
 refine AllReady.cons rfl (fun K hK=>?_) AllReady.nil
 rw [if_pos (by rfl)]
 go_simp
 refine hK _ _ ?_
 clear hK K
 (refine wpAny_take (i:=17) (v:=?_) rfl (by kernel_rfl) (by kernel_rfl) (by kernel_rfl) (fun _ _ _ h=>h) (Or.inl ⟨by rfl,?_⟩) ?_;(rotate_left;(intro w;go_simp;try with_reducible rfl)))
 refine wpAny_done (by kernel_rfl) ?_ _
 have TF6:TabF (((w5.setCell ⟨g,P * 7+1,none⟩ (.int .i64 i)).setCell ⟨g,P * 7+1+1,none⟩ (.int .i64 s)).setCell ⟨g,P * 7+1+2,none⟩ (.int .i64 p.drops)) w3.heap.size g n cc4 P X1 [.string p.id,.int .i64 i,.int .i64 s,.int .i64 p.drops,.int .i64 p.cap,.slice B p.vals.length bc,.int .i64 p.last] X2:=((HTF5.out.set 1 (by omega) (.int .i64 i)).set 2 (by omega) (.int .i64 s)).set 3 (by omega) (.int .i64 p.drops)
 have keep:∀ v n xs,w5.ownsRow w3.heap.size 3 1 v n xs→(((w5.setCell ⟨g,P * 7+1,none⟩ (.int .i64 i)).setCell ⟨g,P * 7+1+1,none⟩ (.int .i64 s)).setCell ⟨g,P * 7+1+2,none⟩ (.int .i64 p.drops)).ownsRow w3.heap.size 3 1 v n xs:=fun v n xs ho=>
  own_tset ((HTF5.out.set 1 (by omega) (.int .i64 i)).set 2 (by omega) (.int .i64 s)) (own_tset (HTF5.out.set 1 (by omega) (.int .i64 i)) (own_tset HTF5.out ho _ _) _ _) _ _
 have P16:=Lib.hid (P15.out.kept keep)
 have P26:=Lib.hid (P25.out.kept keep)
 have Ov6:=Lib.hid (keep _ _ _ Ov5.out)
 have HB6:=Lib.hid (((B5.out.setCell (p:=⟨g,P * 7+1,none⟩) (by show w.heap.size≤g;omega) (.int .i64 i)).setCell (p:=⟨g,P * 7+1+1,none⟩) (by show w.heap.size≤g;omega) (.int .i64 s)).setCell (p:=⟨g,P * 7+1+2,none⟩) (by show w.heap.size≤g;omega) (.int .i64 p.drops))
 have zz6:(((w5.setCell ⟨g,P * 7+1,none⟩ (.int .i64 i)).setCell ⟨g,P * 7+1+1,none⟩ (.int .i64 s)).setCell ⟨g,P * 7+1+2,none⟩ (.int .i64 p.drops)).heap.size=w5.heap.size:=by simp
 go_simp
 generalize (((w5.setCell ⟨g,P * 7+1,none⟩ (.int .i64 i)).setCell ⟨g,P * 7+1+1,none⟩ (.int .i64 s)).setCell ⟨g,P * 7+1+2,none⟩ (.int .i64 p.drops))=w6 at TF6 P16 P26 Ov6 HB6 zz6 ⊢
 have gz6:g<w6.heap.size:=by omega
 clear keep k1 k2 k3 k6 kf m15 m25 zz6
 have k4:=TF6.cell (i:=4) rfl
 have k5:=TF6.cell (i:=5) rfl
 have k6:=TF6.cell (i:=6) rfl
 have kf:=TF6.frozen
 have HTF6:=Lib.hid TF6
 clear TF6
 have sub1:IntKind.i64.wrap (now - p.last)=now - p.last:=IntWalk.i64_in _ (by omega)
 have hmin:min (now - p.last) 16777216=D:=HD.out
 have HIn:=Lib.hid (own_inRow Ov6.out)
 go_wp2_with fail
 have k0:w6.drew.cell? ⟨g,P * 7+4,none⟩=some (.int .i64 p.cap)∧w6.drew.cell? ⟨g,P * 7+4+1,none⟩=some (.slice B p.vals.length bc)∧w6.drew.cell? ⟨g,P * 7+6,none⟩=some (.int .i64 p.last):=⟨k4,k5,k6⟩
 refine wp_region_A 19 rfl (by kernel_rfl) ?_
 (refine wpAny_take (i:=0) (v:=?_) rfl (by kernel_rfl) (by kernel_rfl) (by kernel_rfl) (fun _ _ _ h=>h) (Or.inl ⟨by rfl,?_⟩) ?_;(rotate_left;(intro w;go_simp;try with_reducible rfl)))
 refine wpAny_of_M (S:=fun w'=>w'.cell? ⟨g,P * 7+4,none⟩=some (.int .i64 p.cap)∧w'.cell? ⟨g,P * 7+4+1,none⟩=some (.slice B p.vals.length bc)∧w'.cell? ⟨g,P * 7+6,none⟩=some (.int .i64 p.last)) (D:=fun j=>decide (13≤j)) _ _ _ _ ?_
 (refine wpAnyM_tk (i:=1) (v:=?_) rfl (Or.inl ⟨by rfl,?_⟩) k0 ?_;(rotate_left;(intro w hSw;(try dsimp only at hSw);go_simp;try with_reducible rfl));(try simp only [Act.put,List.setIfInBounds_toArray,List.set_cons_zero,List.set_cons_succ]))
 (refine wpAnyM_tk (i:=2) (v:=?_) rfl (Or.inl ⟨by rfl,?_⟩) k0 ?_;(rotate_left;(intro w hSw;(try dsimp only at hSw);go_simp;try with_reducible rfl));(try simp only [Act.put,List.setIfInBounds_toArray,List.set_cons_zero,List.set_cons_succ]))
 (refine wpAnyM_tk (i:=3) (v:=?_) rfl (Or.inl ⟨by rfl,?_⟩) k0 ?_;(rotate_left;(intro w hSw;(try dsimp only at hSw);go_simp;try with_reducible rfl));(try simp only [Act.put,List.setIfInBounds_toArray,List.set_cons_zero,List.set_cons_succ]))
 (refine wpAnyM_tk (i:=4) (v:=?_) rfl (Or.inl ⟨by rfl,?_⟩) k0 ?_;(rotate_left;(intro w hSw;(try dsimp only at hSw);go_simp;try with_reducible rfl));(try simp only [Act.put,List.setIfInBounds_toArray,List.set_cons_zero,List.set_cons_succ]))
 (refine wpAnyM_tk (i:=5) (v:=?_) rfl (Or.inl ⟨by rfl,?_⟩) k0 ?_;(rotate_left;(intro w hSw;(try dsimp only at hSw);go_simp;try with_reducible rfl));(try simp only [Act.put,List.setIfInBounds_toArray,List.set_cons_zero,List.set_cons_succ]))
 (refine wpAnyM_tk (i:=6) (v:=?_) rfl (Or.inl ⟨by rfl,?_⟩) k0 ?_;(rotate_left;(intro w hSw;(try dsimp only at hSw);go_simp;try with_reducible rfl));(try simp only [Act.put,List.setIfInBounds_toArray,List.set_cons_zero,List.set_cons_succ]))
 (refine wpAnyM_tk (i:=7) (v:=?_) rfl (Or.inl ⟨by rfl,?_⟩) k0 ?_;(rotate_left;(intro w hSw;(try dsimp only at hSw);go_simp;try with_reducible rfl));(try simp only [Act.put,List.setIfInBounds_toArray,List.set_cons_zero,List.set_cons_succ]))
 (refine wpAnyM_tk (i:=8) (v:=?_) rfl (Or.inl ⟨by rfl,?_⟩) k0 ?_;(rotate_left;(intro w hSw;(try dsimp only at hSw);go_simp;try with_reducible rfl));(try simp only [Act.put,List.setIfInBounds_toArray,List.set_cons_zero,List.set_cons_succ]))
 (refine wpAnyM_tk (i:=9) (v:=?_) rfl (Or.inl ⟨by rfl,?_⟩) k0 ?_;(rotate_left;(intro w hSw;(try dsimp only at hSw);go_simp;try with_reducible rfl));(try simp only [Act.put,List.setIfInBounds_toArray,List.set_cons_zero,List.set_cons_succ]))
 (refine wpAnyM_tk (i:=10) (v:=?_) rfl (Or.inl ⟨by rfl,?_⟩) k0 ?_;(rotate_left;(intro w hSw;(try dsimp only at hSw);go_simp;try with_reducible rfl));(try simp only [Act.put,List.setIfInBounds_toArray,List.set_cons_zero,List.set_cons_succ]))
 (refine wpAnyM_tk (i:=11) (v:=?_) rfl (Or.inl ⟨by rfl,?_⟩) k0 ?_;(rotate_left;(intro w hSw;(try dsimp only at hSw);go_simp;try with_reducible rfl));(try simp only [Act.put,List.setIfInBounds_toArray,List.set_cons_zero,List.set_cons_succ]))
 refine wpAnyM_one (i:=12) (by kernel_rfl) rfl (fun K hK=>?_)
 go_simp
 obtain ⟨B',bc',eB,hin6,_⟩:=HIn.out
 obtain ⟨rfl,rfl⟩:B=B'∧bc=bc':=by simp at eB;exact eB
 have hin7:InRow w6.drew B p.vals.length bc p.vals:=hin6.below (Below.drew (Below.refl _ w6))
 refine (HPs.out B bc w6.drew hin7).mono ?_
 rintro e w7 ⟨A7,n7,c7,rfl,own7,hb7⟩
 have hb7':Below w6.heap.size w6 w7:=(Below.drew (Below.refl _ w6)).trans hb7
 have hn7:(pushd p.cap p.vals D).length=n7:=by have:=own7.1;simpa using this
 have zz7:=hb7'.size
 have TF7:=HTF6.out.below hb7'
 have P17:=Lib.hid (P16.out.below hb7')
 have P27:=Lib.hid (P26.out.below hb7')
 have B7:=Lib.hid (HB6.out.trans (hb7'.mono (by omega)))
 have O7:=Lib.hid (own_mono (B':=w3.heap.size) own7 (by show w3.heap.size≤w6.heap.size;omega))
 clear own7 hb7 hb7' k0 k4 k5 k6 kf hin6 hin7 eB
 have k4:=TF7.cell (i:=4) rfl
 have k5:=TF7.cell (i:=5) rfl
 have k6:=TF7.cell (i:=6) rfl
 have kf:=TF7.frozen
 have HTF7:=Lib.hid TF7
 have gz7:g<w7.heap.size:=by omega
 clear TF7
 go_simp
 refine hK _ _ (fun _=>⟨k4,k5,k6⟩) ?_
 clear hK K
 refine wpAnyM_rest (by kernel_rfl) ?_
 (refine wpAny_take (i:=13) (v:=?_) rfl (by kernel_rfl) (by kernel_rfl) (by kernel_rfl) (fun _ _ _ h=>h) (Or.inl ⟨by rfl,?_⟩) ?_;(rotate_left;(intro w;go_simp;try with_reducible rfl)))
 (refine wpAny_take (i:=14) (v:=?_) rfl (by kernel_rfl) (by kernel_rfl) (by kernel_rfl) (fun _ _ _ h=>h) (Or.inl ⟨by rfl,?_⟩) ?_;(rotate_left;(intro w;go_simp;try with_reducible rfl)))
 (refine wpAny_take (i:=15) (v:=?_) rfl (by kernel_rfl) (by kernel_rfl) (by kernel_rfl) (fun _ _ _ h=>h) (Or.inl ⟨by rfl,?_⟩) ?_;(rotate_left;(intro w;go_simp;try with_reducible rfl)))
 (refine wpAny_take (i:=16) (v:=?_) rfl (by kernel_rfl) (by kernel_rfl) (by kernel_rfl) (fun _ _ _ h=>h) (Or.inl ⟨by rfl,?_⟩) ?_;(rotate_left;(intro w;go_simp;try with_reducible rfl)))
 (refine wpAny_take (i:=17) (v:=?_) rfl (by kernel_rfl) (by kernel_rfl) (by kernel_rfl) (fun _ _ _ h=>h) (Or.inl ⟨by rfl,?_⟩) ?_;(rotate_left;(intro w;go_simp;try with_reducible rfl)))
 refine wpAny_ready (rs:=[18]) (by kernel_rfl) (by simp) ?_
 refine AllReady.cons rfl (fun K hK=>?_) AllReady.nil
 rw [if_pos (by rfl)]
 go_simp
 have TF8:TabF ((w7.setCell ⟨g,P * 7+4,none⟩ (.int .i64 p.cap)).setCell ⟨g,P * 7+4+1,none⟩ (.slice A7 n7 c7)) w3.heap.size g n cc4 P X1 [.string p.id,.int .i64 i,.int .i64 s,.int .i64 p.drops,.int .i64 p.cap,.slice A7 n7 c7,.int .i64 p.last] X2:=(HTF7.out.set 4 (by omega) (.int .i64 p.cap)).set 5 (by omega) (.slice A7 n7 c7)
 have keep:∀ v n xs,w7.ownsRow w3.heap.size 3 1 v n xs→((w7.setCell ⟨g,P * 7+4,none⟩ (.int .i64 p.cap)).setCell ⟨g,P * 7+4+1,none⟩ (.slice A7 n7 c7)).ownsRow w3.heap.size 3 1 v n xs:=fun v n xs ho=>
  own_tset (HTF7.out.set 4 (by omega) (.int .i64 p.cap)) (own_tset HTF7.out ho _ _) _ _
 have P18:=Lib.hid (P17.out.kept keep)
 have P28:=Lib.hid (P27.out.kept keep)
 have O8:=Lib.hid (keep _ _ _ O7.out)
 have B8:=Lib.hid ((B7.out.setCell (p:=⟨g,P * 7+4,none⟩) (by show w.heap.size≤g;omega) (.int .i64 p.cap)).setCell (p:=⟨g,P * 7+4+1,none⟩) (by show w.heap.size≤g;omega) (.slice A7 n7 c7))
 refine hK _ _ ?_
 clear hK K
 refine wpAny_done (by kernel_rfl) ?_ _
 go_simp
 generalize ((w7.setCell ⟨g,P * 7+4,none⟩ (.int .i64 p.cap)).setCell ⟨g,P * 7+4+1,none⟩ (.slice A7 n7 c7))=w8 at TF8 P18 P28 O8 B8 ⊢
 clear keep k4 k5 k6 kf
 have k6:=TF8.cell (i:=6) rfl
 have kf:=TF8.frozen
 have HTF8:=Lib.hid TF8
 have TF9:TabF (w8.setCell ⟨g,P * 7+6,none⟩ (.int .i64 now)) w3.heap.size g n cc4 P X1 [.string p.id,.int .i64 i,.int .i64 s,.int .i64 p.drops,.int .i64 p.cap,.slice A7 n7 c7,.int .i64 now] X2:=TF8.set 6 (by omega) (.int .i64 now)
 have keep:∀ v n xs,w8.ownsRow w3.heap.size 3 1 v n xs→(w8.setCell ⟨g,P * 7+6,none⟩ (.int .i64 now)).ownsRow w3.heap.size 3 1 v n xs:=fun v n xs ho=>own_tset TF8 ho _ _
 have HT9:=Lib.hid ((Tab.unfocus (p:={ p with inc:=i,seq:=s,vals:=pushd p.cap p.vals D,last:=now }) TF9 (P18.out.kept keep) ⟨_,rfl,by show World.ownsRow _ _ _ _ _ (pushd p.cap p.vals D).length _;rw [hn7];exact keep _ _ _ O8.out⟩ (P28.out.kept keep) hPl).mono (show w.heap.size≤w3.heap.size by omega))
 have HB9:=Lib.hid (B8.out.setCell (p:=⟨g,P * 7+6,none⟩) (by show w.heap.size≤g;omega) (.int .i64 now))
 clear keep TF8 TF9 hn7
 go_wp2_with fail
 go_ret3
 exact ⟨_,cc4,rfl,by rw [HHS.out];exact HT9.out,HB9.out⟩
end Go.Proofs.YtnaebigoknfndaaGreatDoor
namespace Go.Proofs.YtnaebigoknfndaaGreatDoor
open Go.RowKit
theorem heardP_id (p:Peer) (i s now:Int):(heardP p i s now).id=p.id:=by unfold heardP;split <;> rfl
theorem pushd_len {z:Int} {l:List Int} {v:Int} (hz:1≤z) (h:(l.length:Int)≤z):((pushd z l v).length:Int)≤z:=by
 unfold pushd
 split
 ·rename_i e
  rw [List.length_append,List.length_drop]
  have:1≤l.length:=by omega
  simp;omega
 ·rw [List.length_append];simp;omega
theorem pushd_btw {z:Int} {l:List Int} {v:Int} (h:Btw 0 16777216 l) (hv:0≤v∧v≤16777216):Btw 0 16777216 (pushd z l v):=by
 unfold pushd
 refine Btw.append ?_ (Btw.one hv.1 hv.2)
 split
 ·exact h.drop _
 ·exact h
theorem heardP_ok {p:Peer} {i s now:Int} (h:PeerOK p) (hi:0≤i∧i<2147483648) (hs:1≤s∧s<2147483648) (hn:0≤now∧now≤1073741824) (hl:p.last≤now):PeerOK (heardP p i s now):=by
 obtain ⟨h1,⟨g1,g2,g3,g4,g5,g6,g7⟩,⟨w1,w2,w3,w4⟩,l1,l2⟩:=h
 unfold heardP
 split
 ·refine ⟨h1,⟨hi.1,hi.2,by show 0≤s;omega,hs.2,g5,g6,fun h=>by have h1:s=0:=h.1;omega⟩,⟨w1,w2,?_,?_⟩,hn⟩
  ·exact pushd_len (v:=min (now - p.last) 16777216) w1 w3
  ·exact pushd_btw (v:=min (now - p.last) 16777216) w4 (by omega)
 ·refine ⟨h1,⟨g1,g2,g3,g4,?_,?_,g7⟩,⟨w1,w2,w3,w4⟩,l1,l2⟩ <;> (show _≤_) <;> (try dsimp only) <;> split <;> omega
def HearOK (L:List Peer) (id:ByteArray) (i s now:Int):Prop:=TabOK L∧IdOK (byts id)∧(0≤i∧i<2147483648)∧(1≤s∧s<2147483648)∧(0≤now∧now≤1073741824)∧has L id=true∧(L.getD (pos L id) default).last≤now
theorem has_lt {L:List Peer} {id:ByteArray} (h:has L id=true):pos L id<L.length:=by unfold has at h;simp at h;exact h.1
theorem has_id {L:List Peer} {id:ByteArray} (h:has L id=true):(L.getD (pos L id) default).id=id:=by unfold has at h;simp at h;exact h.2
theorem HearOK.peer {L:List Peer} {id:ByteArray} {i s now:Int} (h:HearOK L id i s now):PeerOK (L.getD (pos L id) default):=(tab_good h.1 _ (has_lt h.2.2.2.2.2.1)).1
theorem pairwise_ids {L M:List Peer} (h:M.map (·.id)=L.map (·.id)) (hp:L.Pairwise (fun p q=>sl p.id q.id=true)):M.Pairwise (fun p q=>sl p.id q.id=true):=by
 have h1:(L.map (·.id)).Pairwise (fun a b=>sl a b=true):=List.pairwise_map.2 hp
 rw [← h] at h1
 exact List.pairwise_map.1 h1
theorem hearS_ids (L:List Peer) (id:ByteArray) (i s now:Int):(hearS L id i s now).map (·.id)=L.map (·.id):=by
 unfold hearS
 rw [List.map_set,heardP_id]
 apply List.ext_getElem?
 intro k
 rw [List.getElem?_set]
 split
 ·rename_i e
  subst e
  split
  ·rename_i hlt
   have hlt':pos L id<L.length:=by simpa using hlt
   simp [List.getD_eq_getElem?_getD,hlt']
  ·rename_i hlt
   rw [List.getElem?_eq_none (by omega)]
 ·rfl
theorem len_ids {L M:List Peer} (h:M.map (·.id)=L.map (·.id)):M.length=L.length:=by simpa using congrArg List.length h
theorem HearOK.tab {L:List Peer} {id:ByteArray} {i s now:Int} (h:HearOK L id i s now):TabOK (hearS L id i s now):=by
 refine ⟨by rw [len_ids (hearS_ids ..)];exact h.1.len,fun p hp=>?_,pairwise_ids (hearS_ids ..) h.1.order⟩
 unfold hearS at hp
 rcases List.mem_or_eq_of_mem_set hp with hp | rfl
 ·exact h.1.each p hp
 ·exact heardP_ok h.peer h.2.2.1 h.2.2.2.1 h.2.2.2.2.1 h.2.2.2.2.2.2
theorem heardP_last {p:Peer} {i s now:Int} (h:p.last≤now):(heardP p i s now).last≤now:=by
 unfold heardP
 split
 ·exact Int.le_refl _
 ·exact h
theorem pos_unique {L:List Peer} {id:ByteArray} {k:Nat} (h:TabOK L) (hb:has L id=true) (hk:k<L.length) (e:(L.getD k default).id=id):k=pos L id:=by
 have hg:∀ j (hj:j<L.length),L.getD j default=L[j]:=fun j hj=>by simp [List.getD_eq_getElem?_getD,hj]
 rcases Nat.lt_trichotomy k (pos L id) with c | c | c
 ·have:=pos_lo c
  rw [e,sl_irr] at this;cases this
 ·exact c
 ·have h1:=List.pairwise_iff_getElem.1 h.order _ _ (has_lt hb) hk c
  rw [← hg _ (has_lt hb),← hg _ hk,has_id hb,e,sl_irr] at h1
  cases h1
theorem str_ne {a b:ByteArray} (h:a≠b):(a.toList==b.toList)=false:=by
 cases hc:a.toList==b.toList with
 | false=>rfl
 | true=>exact absurd (toList_inj (by simpa using hc)) h
theorem hear_yes (A:Option Addr) (n c:Nat) (L:List Peer) (f:Nat→Prop) (id:ByteArray) (i s now:Int) (w:World) (hr:PRow w A n L f) (h:HearOK L id i s now) :
  Calls Tryz.prog 152 #[.slice A n c,.agg #[.string id,.int .i64 i,.int .i64 s],.int .i64 now] w fun e w'=>∃ A' c',e=.returned (.tuple #[.slice A' n c',.bool (newer (L.getD (pos L id) default) i s),.int .i64 0])∧Tab w' w.heap.size A' n c' (hearS L id i s now)∧Below w.heap.size w w':=by
 obtain ⟨h1,h2,h3,h4,h5,h6,h7⟩:=h
 cases hb:newer (L.getD (pos L id) default) i s with
 | true=>exact hear_new A n c L f id i s now _ w hr h1 h2 h3 h4 h5 h6 rfl h7 hb
 | false=>exact hear_old A n c L f id i s now _ w hr h1 h2 h3 h4 h5 h6 rfl h7 hb
theorem hear_not (A:Option Addr) (n c:Nat) (L:List Peer) (f:Nat→Prop) (id:ByteArray) (i s now:Int) (w:World) (hr:PRow w A n L f) (hn:n≤9223372036854775807) (hz:∀ k,k<n→(L.getD k default).id.size≤9223372036854775807) (hm:id.size≤9223372036854775807)
  (h:¬ HearOK L id i s now) :
  Calls Tryz.prog 152 #[.slice A n c,.agg #[.string id,.int .i64 i,.int .i64 s],.int .i64 now] w fun e w'=>(∃ k:Int,(k != 0)=true∧e=.returned (.tuple #[.slice none 0 0,.bool false,.int .i64 k]))∧Below w.heap.size w w':=by
 have hl:=hr.1
 have HR:=Lib.hid hr
 have qa:=alloc_cells
 have qf:=alloc_frozens
 by_cases h1:TabOK L
 ·have h6:=h1.len
  have HC:=Lib.hid (fun w' (hr:PRow w' A n L f)=>pcheck_ok A n c L f w' hr h1)
  by_cases h2:IdOK (byts id)
  ·by_cases h3:(0≤i∧i<2147483648)∧(1≤s∧s<2147483648)
   ·have HBc:=Lib.hid (fun w'=>bcheck_ok id i s w' h2 h3.1 h3.2)
    have HF:=Lib.hid (fun w' (hr:PRow w' A n L f)=>find_ok A n c L f id w' hr (by omega) h1.order)
    by_cases h4:0≤now∧now≤1073741824
    ·obtain ⟨n1,n2⟩:=h4
     have d3:decide (now<0)=false:=by simp;omega
     have d4:decide (1073741824<now)=false:=by simp;omega
     cases hb:has L id with
     | true=>
      have h7:¬ (L.getD (pos L id) default).last≤now:=fun h7=>h ⟨h1,h2,h3.1,h3.2,⟨n1,n2⟩,hb,h7⟩
      have HCo:=Lib.hid (fun w' (hr:PRow w' A n L f)=>copied_ok A n c L f w' hr (by omega) (fun k hk=>by have:=h1.vals k (by omega);omega))
      have hPl:=has_lt hb
      rw [hb] at HF
      obtain ⟨P,hP⟩:∃ P,pos L id=P:=⟨_,rfl⟩
      rw [hP] at HF hPl h7
      obtain ⟨p,hp⟩:∃ p,L.getD P default=p:=⟨_,rfl⟩
      rw [hp] at h7
      have Hp:=Lib.hid hp
      have d5:now<p.last:=by omega
      have hPn:P<n:=by omega
      clear hr h hz h1 h2 h3 hb hP hp h7
      go_enter Tryz.func152,Tryz.ntmps152
      go_wp2_with fail
      refine (HC.out _ (HR.out.below (by repeat (first | (with_reducible exact Below.refl _ _) | (with_reducible refine bAl ?_ _) | (with_reducible refine bSc ?_ _) | (with_reducible refine Below.drew ?_) | (refine Below.trans ?_ (by assumption)))))).mono ?_
      rintro e w1 ⟨rfl,hb1⟩
      have z1:=hb1.size
      have c1:=Below.cells hb1
      have f1:=Below.frozens hb1
      try simp only [World.size_alloc,World.size_setCell,World.size_drew] at z1 c1 f1
      go_wp2_with fail
      refine (HBc.out _).mono ?_
      rintro e w2 ⟨rfl,hb2⟩
      have z2:=hb2.size
      have c2:=Below.cells hb2
      have f2:=Below.frozens hb2
      try simp only [World.size_alloc,World.size_setCell,World.size_drew] at z2 c2 f2
      go_wp2_with fail
      refine (HF.out _ (HR.out.below (by repeat (first | (with_reducible exact Below.refl _ _) | (with_reducible refine bAl ?_ _) | (with_reducible refine bSc ?_ _) | (with_reducible refine Below.drew ?_) | (with_reducible refine bTm ?_ hb2) | (with_reducible refine bTm ?_ hb1))))).mono ?_
      rintro e w3 ⟨rfl,hb3⟩
      have z3:=hb3.size
      have c3:=Below.cells hb3
      have f3:=Below.frozens hb3
      try simp only [World.size_alloc,World.size_setCell,World.size_drew] at z3 c3 f3
      go_wp2_with fail
      refine (HCo.out _ (HR.out.below (by repeat (first | (with_reducible exact Below.refl _ _) | (with_reducible refine bAl ?_ _) | (with_reducible refine bSc ?_ _) | (with_reducible refine Below.drew ?_) | (with_reducible refine bTm ?_ hb3) | (with_reducible refine bTm ?_ hb2) | (with_reducible refine bTm ?_ hb1))))).mono ?_
      rintro e w4 ⟨A4,cc4,xs,rfl,own4,pv4,hb4⟩
      obtain ⟨b,off,rfl,_,_,hpa⟩:=(show Tab w4 w3.heap.size A4 n cc4 L from ⟨xs,own4,pv4⟩).row.at hPn
      rw [Hp.out] at hpa
      obtain ⟨_,_,_,_,_,k6,_⟩:=hpa
      have BL:=Lib.hid (show Below w.heap.size w w4 from (by repeat (first | (with_reducible exact Below.refl _ _) | (with_reducible refine bAl ?_ _) | (with_reducible refine bSc ?_ _) | (with_reducible refine Below.drew ?_) | (with_reducible refine bTm ?_ hb4) | (with_reducible refine bTm ?_ hb3) | (with_reducible refine bTm ?_ hb2) | (with_reducible refine bTm ?_ hb1))))
      clear c1 c2 c3 f1 f2 f3 qa qf hb1 hb2 hb3 hb4 z1 z2 z3 own4 pv4
      go_wp2_with fail
      go_ret3
      exact ⟨⟨1,by decide,rfl⟩,BL.out⟩
     | false=>
      rw [hb] at HF
      obtain ⟨P,hP⟩:∃ P,pos L id=P:=⟨_,rfl⟩
      rw [hP] at HF
      clear hr h hz h1 h2 h3 hb hP
      go_enter Tryz.func152,Tryz.ntmps152
      go_wp2_with fail
      refine (HC.out _ (HR.out.below (by repeat (first | (with_reducible exact Below.refl _ _) | (with_reducible refine bAl ?_ _) | (with_reducible refine bSc ?_ _) | (with_reducible refine Below.drew ?_) | (refine Below.trans ?_ (by assumption)))))).mono ?_
      rintro e w1 ⟨rfl,hb1⟩
      have z1:=hb1.size
      have c1:=Below.cells hb1
      have f1:=Below.frozens hb1
      try simp only [World.size_alloc,World.size_setCell,World.size_drew] at z1 c1 f1
      go_wp2_with fail
      refine (HBc.out _).mono ?_
      rintro e w2 ⟨rfl,hb2⟩
      have z2:=hb2.size
      have c2:=Below.cells hb2
      have f2:=Below.frozens hb2
      try simp only [World.size_alloc,World.size_setCell,World.size_drew] at z2 c2 f2
      go_wp2_with fail
      refine (HF.out _ (HR.out.below (by repeat (first | (with_reducible exact Below.refl _ _) | (with_reducible refine bAl ?_ _) | (with_reducible refine bSc ?_ _) | (with_reducible refine Below.drew ?_) | (with_reducible refine bTm ?_ hb2) | (with_reducible refine bTm ?_ hb1))))).mono ?_
      rintro e w3 ⟨rfl,hb3⟩
      have z3:=hb3.size
      have c3:=Below.cells hb3
      have f3:=Below.frozens hb3
      try simp only [World.size_alloc,World.size_setCell,World.size_drew] at z3 c3 f3
      go_wp2_with fail
      go_ret3
      exact ⟨⟨4,by decide,rfl⟩,(by repeat (first | (with_reducible exact Below.refl _ _) | (with_reducible refine bAl ?_ _) | (with_reducible refine bSc ?_ _) | (with_reducible refine Below.drew ?_) | (with_reducible refine bTm ?_ hb3) | (with_reducible refine bTm ?_ hb2) | (with_reducible refine bTm ?_ hb1)))⟩
    ·by_cases a5:now<0
     ·have d3:decide (now<0)=true:=by simp;omega
      clear hr h hz h1 h2 h3 h4
      go_enter Tryz.func152,Tryz.ntmps152
      go_wp2_with fail
      refine (HC.out _ (HR.out.below (by repeat (first | (with_reducible exact Below.refl _ _) | (with_reducible refine bAl ?_ _) | (with_reducible refine bSc ?_ _) | (with_reducible refine Below.drew ?_) | (refine Below.trans ?_ (by assumption)))))).mono ?_
      rintro e w1 ⟨rfl,hb1⟩
      have z1:=hb1.size
      have c1:=Below.cells hb1
      have f1:=Below.frozens hb1
      try simp only [World.size_alloc,World.size_setCell,World.size_drew] at z1 c1 f1
      go_wp2_with fail
      refine (HBc.out _).mono ?_
      rintro e w2 ⟨rfl,hb2⟩
      have z2:=hb2.size
      have c2:=Below.cells hb2
      have f2:=Below.frozens hb2
      try simp only [World.size_alloc,World.size_setCell,World.size_drew] at z2 c2 f2
      go_wp2_with fail
      go_ret3
      exact ⟨⟨1,by decide,rfl⟩,(by repeat (first | (with_reducible exact Below.refl _ _) | (with_reducible refine bAl ?_ _) | (with_reducible refine bSc ?_ _) | (with_reducible refine Below.drew ?_) | (with_reducible refine bTm ?_ hb2) | (with_reducible refine bTm ?_ hb1)))⟩
     ·have d3:decide (now<0)=false:=by simp;omega
      have d4:decide (1073741824<now)=true:=by simp;omega
      clear hr h hz h1 h2 h3 h4
      go_enter Tryz.func152,Tryz.ntmps152
      go_wp2_with fail
      refine (HC.out _ (HR.out.below (by repeat (first | (with_reducible exact Below.refl _ _) | (with_reducible refine bAl ?_ _) | (with_reducible refine bSc ?_ _) | (with_reducible refine Below.drew ?_) | (refine Below.trans ?_ (by assumption)))))).mono ?_
      rintro e w1 ⟨rfl,hb1⟩
      have z1:=hb1.size
      have c1:=Below.cells hb1
      have f1:=Below.frozens hb1
      try simp only [World.size_alloc,World.size_setCell,World.size_drew] at z1 c1 f1
      go_wp2_with fail
      refine (HBc.out _).mono ?_
      rintro e w2 ⟨rfl,hb2⟩
      have z2:=hb2.size
      have c2:=Below.cells hb2
      have f2:=Below.frozens hb2
      try simp only [World.size_alloc,World.size_setCell,World.size_drew] at z2 c2 f2
      go_wp2_with fail
      go_ret3
      exact ⟨⟨1,by decide,rfl⟩,(by repeat (first | (with_reducible exact Below.refl _ _) | (with_reducible refine bAl ?_ _) | (with_reducible refine bSc ?_ _) | (with_reducible refine Below.drew ?_) | (with_reducible refine bTm ?_ hb2) | (with_reducible refine bTm ?_ hb1)))⟩
   ·have HBc:=Lib.hid (fun w'=>bcheck_arg id i s w' h2 h3)
    clear hr h hz h1 h2 h3
    go_enter Tryz.func152,Tryz.ntmps152
    go_wp2_with fail
    refine (HC.out _ (HR.out.below (by repeat (first | (with_reducible exact Below.refl _ _) | (with_reducible refine bAl ?_ _) | (with_reducible refine bSc ?_ _) | (with_reducible refine Below.drew ?_) | (refine Below.trans ?_ (by assumption)))))).mono ?_
    rintro e w1 ⟨rfl,hb1⟩
    have z1:=hb1.size
    have c1:=Below.cells hb1
    have f1:=Below.frozens hb1
    try simp only [World.size_alloc,World.size_setCell,World.size_drew] at z1 c1 f1
    go_wp2_with fail
    refine (HBc.out _).mono ?_
    rintro e w2 ⟨rfl,hb2⟩
    have z2:=hb2.size
    have c2:=Below.cells hb2
    have f2:=Below.frozens hb2
    try simp only [World.size_alloc,World.size_setCell,World.size_drew] at z2 c2 f2
    go_wp2_with fail
    go_ret3
    exact ⟨⟨1,by decide,rfl⟩,(by repeat (first | (with_reducible exact Below.refl _ _) | (with_reducible refine bAl ?_ _) | (with_reducible refine bSc ?_ _) | (with_reducible refine Below.drew ?_) | (with_reducible refine bTm ?_ hb2) | (with_reducible refine bTm ?_ hb1)))⟩
  ·have HBc:=Lib.hid (fun w'=>bcheck_form id i s w' hm h2)
   clear hr h hz h1 h2
   go_enter Tryz.func152,Tryz.ntmps152
   go_wp2_with fail
   refine (HC.out _ (HR.out.below (by repeat (first | (with_reducible exact Below.refl _ _) | (with_reducible refine bAl ?_ _) | (with_reducible refine bSc ?_ _) | (with_reducible refine Below.drew ?_) | (refine Below.trans ?_ (by assumption)))))).mono ?_
   rintro e w1 ⟨rfl,hb1⟩
   have z1:=hb1.size
   have c1:=Below.cells hb1
   have f1:=Below.frozens hb1
   try simp only [World.size_alloc,World.size_setCell,World.size_drew] at z1 c1 f1
   go_wp2_with fail
   refine (HBc.out _).mono ?_
   rintro e w2 ⟨rfl,hb2⟩
   have z2:=hb2.size
   have c2:=Below.cells hb2
   have f2:=Below.frozens hb2
   try simp only [World.size_alloc,World.size_setCell,World.size_drew] at z2 c2 f2
   go_wp2_with fail
   go_ret3
   exact ⟨⟨3,by decide,rfl⟩,(by repeat (first | (with_reducible exact Below.refl _ _) | (with_reducible refine bAl ?_ _) | (with_reducible refine bSc ?_ _) | (with_reducible refine Below.drew ?_) | (with_reducible refine bTm ?_ hb2) | (with_reducible refine bTm ?_ hb1)))⟩
 ·have HC:=Lib.hid (fun w' (hr:PRow w' A n L f)=>pcheck_bad A n c L f w' hr hn hz h1)
  clear hr h hz h1
  go_enter Tryz.func152,Tryz.ntmps152
  go_wp2_with fail
  refine (HC.out _ (HR.out.below (by repeat (first | (with_reducible exact Below.refl _ _) | (with_reducible refine bAl ?_ _) | (with_reducible refine bSc ?_ _) | (with_reducible refine Below.drew ?_) | (refine Below.trans ?_ (by assumption)))))).mono ?_
  rintro e w1 ⟨⟨k,hk,rfl⟩,hb1⟩
  have z1:=hb1.size
  try simp only [World.size_alloc,World.size_setCell,World.size_drew] at z1
  go_wp2_with fail
  go_ret3
  exact ⟨⟨k,hk,rfl⟩,(by repeat (first | (with_reducible exact Below.refl _ _) | (with_reducible refine bAl ?_ _) | (with_reducible refine bSc ?_ _) | (with_reducible refine Below.drew ?_) | (with_reducible refine bTm ?_ hb1)))⟩
end Go.Proofs.YtnaebigoknfndaaGreatDoor
