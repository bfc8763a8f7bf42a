/- What the desk's two laws lean on: part 15 (contracts and plain laws; their conditions stand in each). -/
import Derived.Test.YtnaebigoknfndaaGreatDoorE01
import Derived.Test.YtnaebigoknfndaaGreatDoorE14
import Derived.Test.YtnaebigoknfndaaGreatDoorE12
import Derived.Deep.DeepCutAuto
set_option linter.unusedVariables false
set_option linter.unusedSimpArgs false
set_option maxRecDepth 100000
set_option maxHeartbeats 20000000
namespace Go.Proofs.YtnaebigoknfndaaGreatDoor
open Go Go.RowKit
theorem hear_none4 (A:Option Addr) (n c:Nat) (L:List Peer) (f:Nat→Prop) (id:ByteArray) (i s now:Int) (w:World) (hr:PRow w A n L f) (h1:TabOK L) (h2:IdOK (byts id)) (h3:0≤i∧i<2147483648) (h3':1≤s∧s<2147483648) (h4:0≤now∧now≤1073741824) (hb:has L id=false) :
  Calls Tryz.prog 152 #[.slice A n c,.agg #[.string id,.int .i64 i,.int .i64 s],.int .i64 now] w fun e w'=>e=.returned (.tuple #[.slice none 0 0,.bool false,.int .i64 4])∧Below w.heap.size w w':=by
 have hl:=hr.1
 have HR:=Lib.hid hr
 have qa:=alloc_cells
 have qf:=alloc_frozens
 have h6:=h1.len
 have HC:=Lib.hid (fun w' (hr:PRow w' A n L f)=>pcheck_ok A n c L f w' hr h1)
 have HBc:=Lib.hid (fun w'=>bcheck_ok id i s w' h2 h3 h3')
 have HF:=Lib.hid (fun w' (hr:PRow w' A n L f)=>find_ok A n c L f id w' hr (by omega) h1.order)
 obtain ⟨n1,n2⟩:=h4
 have d3:decide (now<0)=false:=by simp;omega
 have d4:decide (1073741824<now)=false:=by simp;omega
 rw [hb] at HF
 obtain ⟨P,hP⟩:∃ P,pos L id=P:=⟨_,rfl⟩
 rw [hP] at HF
 clear hr h1 h2 h3 h3' hb hP
 go_enter Tryz.func152,Tryz.ntmps152
 go_wp2_with fail
 refine (HC.out _ (HR.out.below (by repeat (first | (with_reducible exact Below.refl _ _) | (with_reducible refine bAl ?_ _) | (with_reducible refine bSc ?_ _) | (with_reducible refine Below.drew ?_) | (refine Below.trans ?_ (by assumption)))))).mono ?_
 rintro e w1 ⟨rfl,hb1⟩
 have z1:=hb1.size
 have c1:=Below.cells hb1
 have f1:=Below.frozens hb1
 try simp only [World.size_alloc,World.size_setCell,World.size_drew] at z1 c1 f1
 go_wp2_with fail
 refine (HBc.out _).mono ?_
 rintro e w2 ⟨rfl,hb2⟩
 have z2:=hb2.size
 have c2:=Below.cells hb2
 have f2:=Below.frozens hb2
 try simp only [World.size_alloc,World.size_setCell,World.size_drew] at z2 c2 f2
 go_wp2_with fail
 refine (HF.out _ (HR.out.below (by repeat (first | (with_reducible exact Below.refl _ _) | (with_reducible refine bAl ?_ _) | (with_reducible refine bSc ?_ _) | (with_reducible refine Below.drew ?_) | (with_reducible refine bTm ?_ hb2) | (with_reducible refine bTm ?_ hb1))))).mono ?_
 rintro e w3 ⟨rfl,hb3⟩
 have z3:=hb3.size
 have c3:=Below.cells hb3
 have f3:=Below.frozens hb3
 try simp only [World.size_alloc,World.size_setCell,World.size_drew] at z3 c3 f3
 go_wp2_with fail
 go_ret3
 exact ⟨rfl,(by repeat (first | (with_reducible exact Below.refl _ _) | (with_reducible refine bAl ?_ _) | (with_reducible refine bSc ?_ _) | (with_reducible refine Below.drew ?_) | (with_reducible refine bTm ?_ hb3) | (with_reducible refine bTm ?_ hb2) | (with_reducible refine bTm ?_ hb1)))⟩
theorem nhear_none4 (b:Nat) (s:NSt) (f:Nat→Prop) (id:ByteArray) (i q:Nat) (w:World) (h:NRep w b s f) (ok:NOK s) (hbk:BOK (byts id) i q) (hno:has s.peers id=false) :
  Calls Tryz.prog 123 #[.pointer (some ⟨b,0,none⟩),.string (mkB (encL (byts id) i q))] w fun e w'=>e=.returned (.tuple #[.slice none 0 0,.int .i64 4])∧NRep w' b { s with drops:=more s.drops } f∧Kept f w w':=by
 have HD:=Lib.hid (fun w'=>decode_enc id i q w' hbk)
 have HR:=Lib.hid h
 obtain ⟨A,pn,pc,S,hnd,hpr⟩:=h.node
 have hbl:=hnd.lt
 have hfb:=h.fb
 have HFb:=Lib.hid hfb
 obtain ⟨_,_,_,_,_,k5,_,k7,k8,_⟩:=hnd.cells
 have kf:=hnd.frozen
 have dr:=ok.drops
 have pl:=hpr.1
 have HPr:=Lib.hid hpr
 have HOk:=Lib.hid ok
 have HHe:=Lib.hid (fun w' (hr:PRow w' A pn s.peers f)=>hear_none4 A pn pc s.peers f id i q s.now w' hr ok.tab hbk.1 (by have:=hbk.2.1;omega) (by have:=hbk.2.2;omega) (by have:=ok.now;omega) hno)
 obtain ⟨tx,htx⟩:∃ t,mkB (encL (byts id) i q)=t:=⟨_,rfl⟩
 rw [htx] at HD
 rw [htx]
 obtain ⟨d,hd⟩:∃ d,s.drops=d:=⟨_,rfl⟩
 rw [hd] at k7 dr
 have HDd:=Lib.hid hd
 have w1:IntKind.i64.wrap (d+1)=d+1:=IntWalk.i64_in _ (by omega)
 obtain ⟨d1,hd1⟩:∃ x,min (d+1) 1073741824=x:=⟨_,rfl⟩
 have HM:=Lib.hid (show more s.drops=d1 by unfold more;rw [hd,hd1])
 obtain ⟨nw,hnw⟩:∃ x,s.now=x:=⟨_,rfl⟩
 rw [hnw] at k5 HHe
 have HNw:=Lib.hid hnw
 have qa:=alloc_cells
 have qf:=alloc_frozens
 have HND:=Lib.hid hnd
 clear h ok hnd hfb hbk hpr htx hnw hd hno
 go_enter Tryz.func123,Tryz.ntmps123
 go_wp2_with fail
 refine (HD.out _).mono ?_
 rintro e w1 ⟨rfl,hb1⟩
 have z1:=hb1.size
 have c1:=Below.cells hb1
 have f1:=Below.frozens hb1
 try simp only [World.size_alloc,World.size_setCell,World.size_drew] at z1 c1 f1
 go_wp2_with fail
 have Bx:=Lib.hid (show Below w.heap.size w (w1.alloc (.cells #[.string id,.int .i64 (i:Int),.int .i64 (q:Int)] 183)) from (by repeat (first | (with_reducible exact Below.refl _ _) | (with_reducible refine bAl ?_ _) | (with_reducible refine bSc ?_ _) | (with_reducible refine Below.drew ?_) | (with_reducible refine bTm ?_ hb1))))
 have m8:(w1.alloc (.cells #[.string id,.int .i64 (i:Int),.int .i64 (q:Int)] 183)).cell? ⟨b,8,none⟩=some (.slice A pn pc):=(Bx.out.cell (p:=⟨b,8,none⟩) hbl).trans k8
 have m5:(w1.alloc (.cells #[.string id,.int .i64 (i:Int),.int .i64 (q:Int)] 183)).cell? ⟨b,5,none⟩=some (.int .i64 nw):=(Bx.out.cell (p:=⟨b,5,none⟩) hbl).trans k5
 have b0:(w1.alloc (.cells #[.string id,.int .i64 (i:Int),.int .i64 (q:Int)] 183)).cell? ⟨w1.heap.size,0,none⟩=some (.string id):=World.cell?_alloc_new _ _ _ 0
 have b1:(w1.alloc (.cells #[.string id,.int .i64 (i:Int),.int .i64 (q:Int)] 183)).cell? ⟨w1.heap.size,1,none⟩=some (.int .i64 (i:Int)):=World.cell?_alloc_new _ _ _ 1
 have b2:(w1.alloc (.cells #[.string id,.int .i64 (i:Int),.int .i64 (q:Int)] 183)).cell? ⟨w1.heap.size,2,none⟩=some (.int .i64 (q:Int)):=World.cell?_alloc_new _ _ _ 2
 have szx:w1.heap.size<(w1.alloc (.cells #[.string id,.int .i64 (i:Int),.int .i64 (q:Int)] 183)).heap.size:=by simp
 have szy:w.heap.size≤(w1.alloc (.cells #[.string id,.int .i64 (i:Int),.int .i64 (q:Int)] 183)).heap.size:=Bx.out.size
 have szb:b<(w1.alloc (.cells #[.string id,.int .i64 (i:Int),.int .i64 (q:Int)] 183)).heap.size:=by omega
 generalize (w1.alloc (.cells #[.string id,.int .i64 (i:Int),.int .i64 (q:Int)] 183))=w2 at Bx m8 m5 b0 b1 b2 szx szy szb ⊢
 clear hb1 c1 f1 z1 qa qf k5 k7 k8 kf
 have kk:w2.drew.cell? ⟨b,8,none⟩=some (.slice A pn pc)∧w2.drew.cell? ⟨b,5,none⟩=some (.int .i64 nw)∧w2.drew.cell? ⟨w1.heap.size,0,none⟩=some (.string id)∧w2.drew.cell? ⟨w1.heap.size,1,none⟩=some (.int .i64 (i:Int))∧w2.drew.cell? ⟨w1.heap.size,2,none⟩=some (.int .i64 (q:Int)):=⟨m8,m5,b0,b1,b2⟩
 have M2:=Lib.hid kk
 refine wp_region_M (fun w'=>w'.cell? ⟨b,8,none⟩=some (.slice A pn pc)∧w'.cell? ⟨b,5,none⟩=some (.int .i64 nw)∧w'.cell? ⟨w1.heap.size,0,none⟩=some (.string id)∧w'.cell? ⟨w1.heap.size,1,none⟩=some (.int .i64 (i:Int))∧w'.cell? ⟨w1.heap.size,2,none⟩=some (.int .i64 (q:Int))) (fun j=>decide (10≤j)) 17 rfl (by kernel_rfl) ?_
 (refine wpAnyM_tk (i:=0) (v:=?_) rfl (Or.inl ⟨by rfl,?_⟩) kk ?_;(rotate_left;(intro w hSw;(try dsimp only at hSw);go_simp;try with_reducible rfl));(try simp only [Act.put,List.setIfInBounds_toArray,List.set_cons_zero,List.set_cons_succ]))
 (refine wpAnyM_tk (i:=1) (v:=?_) rfl (Or.inl ⟨by rfl,?_⟩) kk ?_;(rotate_left;(intro w hSw;(try dsimp only at hSw);go_simp;try with_reducible rfl));(try simp only [Act.put,List.setIfInBounds_toArray,List.set_cons_zero,List.set_cons_succ]))
 (refine wpAnyM_tk (i:=2) (v:=?_) rfl (Or.inl ⟨by rfl,?_⟩) kk ?_;(rotate_left;(intro w hSw;(try dsimp only at hSw);go_simp;try with_reducible rfl));(try simp only [Act.put,List.setIfInBounds_toArray,List.set_cons_zero,List.set_cons_succ]))
 (refine wpAnyM_tk (i:=3) (v:=?_) rfl (Or.inl ⟨by rfl,?_⟩) kk ?_;(rotate_left;(intro w hSw;(try dsimp only at hSw);go_simp;try with_reducible rfl));(try simp only [Act.put,List.setIfInBounds_toArray,List.set_cons_zero,List.set_cons_succ]))
 (refine wpAnyM_tk (i:=4) (v:=?_) rfl (Or.inl ⟨by rfl,?_⟩) kk ?_;(rotate_left;(intro w hSw;(try dsimp only at hSw);go_simp;try with_reducible rfl));(try simp only [Act.put,List.setIfInBounds_toArray,List.set_cons_zero,List.set_cons_succ]))
 (refine wpAnyM_tk (i:=5) (v:=?_) rfl (Or.inl ⟨by rfl,?_⟩) kk ?_;(rotate_left;(intro w hSw;(try dsimp only at hSw);go_simp;try with_reducible rfl));(try simp only [Act.put,List.setIfInBounds_toArray,List.set_cons_zero,List.set_cons_succ]))
 (refine wpAnyM_tk (i:=6) (v:=?_) rfl (Or.inl ⟨by rfl,?_⟩) kk ?_;(rotate_left;(intro w hSw;(try dsimp only at hSw);go_simp;try with_reducible rfl));(try simp only [Act.put,List.setIfInBounds_toArray,List.set_cons_zero,List.set_cons_succ]))
 (refine wpAnyM_tk (i:=7) (v:=?_) rfl (Or.inl ⟨by rfl,?_⟩) kk ?_;(rotate_left;(intro w hSw;(try dsimp only at hSw);go_simp;try with_reducible rfl));(try simp only [Act.put,List.setIfInBounds_toArray,List.set_cons_zero,List.set_cons_succ]))
 (refine wpAnyM_tk (i:=8) (v:=?_) rfl (Or.inl ⟨by rfl,?_⟩) kk ?_;(rotate_left;(intro w hSw;(try dsimp only at hSw);go_simp;try with_reducible rfl));(try simp only [Act.put,List.setIfInBounds_toArray,List.set_cons_zero,List.set_cons_succ]))
 refine wpAnyM_one (i:=9) (by kernel_rfl) rfl (fun K hK=>?_)
 go_simp
 refine (HHe.out _ ((HPr.out.below Bx.out).below (Below.drew (Below.refl _ w2)))).mono ?_
 rintro e w3 ⟨rfl,hb3⟩
 have hb3':Below w2.heap.size w2 w3:=(Below.drew (Below.refl _ w2)).trans hb3
 have cc:∀ p:Addr,p.block<w2.heap.size→w3.cell? p=w2.cell? p:=fun p hp=>hb3'.cell hp
 go_simp
 refine hK _ _ (fun _=>⟨(cc _ szb).trans m8,(cc _ szb).trans m5,(cc _ szx).trans b0,(cc _ szx).trans b1,(cc _ szx).trans b2⟩) ?_
 clear hK K
 refine wpAnyM_rest (by kernel_rfl) ?_
 (refine wpAny_take (i:=10) (v:=?_) rfl (by kernel_rfl) (by kernel_rfl) (by kernel_rfl) (fun _ _ _ h=>h) (Or.inl ⟨by rfl,?_⟩) ?_;(rotate_left;(intro w;go_simp;try with_reducible rfl)))
 (refine wpAny_take (i:=11) (v:=?_) rfl (by kernel_rfl) (by kernel_rfl) (by kernel_rfl) (fun _ _ _ h=>h) (Or.inl ⟨by rfl,?_⟩) ?_;(rotate_left;(intro w;go_simp;try with_reducible rfl)))
 (refine wpAny_take (i:=12) (v:=?_) rfl (by kernel_rfl) (by kernel_rfl) (by kernel_rfl) (fun _ _ _ h=>h) (Or.inl ⟨by rfl,?_⟩) ?_;(rotate_left;(intro w;go_simp;try with_reducible rfl)))
 (refine wpAny_take (i:=13) (v:=?_) rfl (by kernel_rfl) (by kernel_rfl) (by kernel_rfl) (fun _ _ _ h=>h) (Or.inl ⟨by rfl,?_⟩) ?_;(rotate_left;(intro w;go_simp;try with_reducible rfl)))
 (refine wpAny_take (i:=14) (v:=?_) rfl (by kernel_rfl) (by kernel_rfl) (by kernel_rfl) (fun _ _ _ h=>h) (Or.inl ⟨by rfl,?_⟩) ?_;(rotate_left;(intro w;go_simp;try with_reducible rfl)))
 (refine wpAny_take (i:=15) (v:=?_) rfl (by kernel_rfl) (by kernel_rfl) (by kernel_rfl) (fun _ _ _ h=>h) (Or.inl ⟨by rfl,?_⟩) ?_;(rotate_left;(intro w;go_simp;try with_reducible rfl)))
 (refine wpAny_take (i:=16) (v:=?_) rfl (by kernel_rfl) (by kernel_rfl) (by kernel_rfl) (fun _ _ _ h=>h) (Or.inl ⟨by rfl,?_⟩) ?_;(rotate_left;(intro w;go_simp;try with_reducible rfl)))
 refine wpAny_done (by kernel_rfl) ?_ _
 have B3:=Lib.hid (Bx.out.trans (hb3'.mono szy))
 have R3:=HR.out.below B3.out
 obtain ⟨_,_,_,_,hnd3,_⟩:=R3.node
 have k7:w3.cell? ⟨b,7,none⟩=some (.int .i64 d):=by
  obtain ⟨_,_,_,_,_,_,_,k7,_,_⟩:=HND.out.cells
  have:=(B3.out.cell (p:=⟨b,7,none⟩) hbl).trans k7
  rw [this,HDd.out]
 have kf:=hnd3.frozen
 have R4:=Lib.hid (R3.setDrops d1)
 have K4:=Lib.hid ((Kept.of_below (f:=f) B3.out).set HFb.out 7 (.int .i64 d1))
 clear hb3 hb3' cc kk m8 m5 b0 b1 b2 R3 hnd3
 go_simp
 go_wp2_with fail
 go_ret2
 exact ⟨rfl,by rw [HM.out];exact R4.out,K4.out⟩
section
variable {t i:Nat} {S:TSt} {f:Nat→Prop}
theorem tbring_self (w:World) {u:Nat} {id:ByteArray} {q:Int} (h:TRep w t S f) (hi:i<S.way.length) (ht:u<S.n) (hd:S.dead u=false) (ok:NOK (S.nd u)) (hid:IdOK (byts id)) (hq:1≤q∧q<2147483648) (hno:has (S.nd u).peers id=false) (hx:S.way.getD i ⟨#[]⟩=mkB (encL (byts id) 0 q.toNat)) :
  Calls Tryz.prog 85 #[.pointer (some ⟨t,0,none⟩),.int .i64 i,.int .i64 u] w fun e w'=>e=.returned (.tuple #[.slice none 0 0,.int .i64 4])∧(∃ f',TRep w' t (setN S u (hearF (S.nd u) id q).1) f'∧(∀ x,f' x→f x∨w.heap.size≤x))∧Kept f w w':=by
 obtain ⟨c,ga,gn,gd,ca,cn,cd,wv,bs,h⟩:=h
 obtain ⟨_,k1,k2,k3,_⟩:=h.cells
 obtain ⟨_,p1,p2,nr,tl,nl,dl,_⟩:=h.parts ht
 obtain ⟨gw,cw,rfl,wl,xw⟩:=h.wayAt hi
 rw [hx] at xw
 rw [hd] at p2
 have HRep:=Lib.hid h
 have HT:=Lib.hid ht
 have HNr:=Lib.hid nr
 have HHr:=Lib.hid (fun w' (r:NRep w' (bs u) (S.nd u) (fun x=>f x∧c x=u+5))=>nhear_none4 (bs u) (S.nd u) _ id 0 q.toNat w' r ok ⟨hid,by omega,by omega,by omega⟩ hno)
 rw [show ({ S.nd u with drops:=more (S.nd u).drops }:NSt)=(hearF (S.nd u) id q).1 by rw [hearF_no hno];rfl] at HHr
 have HEv:=Lib.hid (show (hearF (S.nd u) id q).1.every=(S.nd u).every by unfold hearF;split;(split <;> rfl);rfl)
 obtain ⟨tx,htx⟩:∃ x,mkB (encL (byts id) 0 q.toNat)=x:=⟨_,rfl⟩
 rw [htx] at xw HHr
 obtain ⟨R,hR⟩:∃ R,hearF (S.nd u) id q=R:=⟨_,rfl⟩
 rw [hR] at HHr HEv ⊢
 obtain ⟨n,hn⟩:∃ n,S.n=n:=⟨_,rfl⟩
 rw [hn] at k1 k2 ht
 obtain ⟨m,hm⟩:∃ m,S.way.length=m:=⟨_,rfl⟩
 rw [hm] at k3 hi
 have i0:¬ (i:Int)<0:=by omega
 have i1:(i:Int)<m:=by omega
 have i2:decide ((m:Int)≤i)=false:=by simp;omega
 have j0:¬ (u:Int)<0:=by omega
 have j1:(u:Int)<n:=by omega
 have j2:decide ((n:Int)≤u)=false:=by simp;omega
 clear h nr ok hd hn hm htx hR hx hid hq hno
 go_enter Tryz.func85,Tryz.ntmps85
 go_wp2_with fail
 refine wp_region_quiet_then 14 #[true,true,true,true,true,true,true,true,true,true,true,true,true,true,false,false,false,false,false] (Ext _) (by kernel_rfl) (by kernel_rfl) (Ext.drawn _) ?_
 simp only [List.take_succ_cons,List.take_zero]
 repeat (first | go_big_quiet_skip | go_big_quiet_step (fail) | (refine BigFrame.wpQuiet_want rfl (fun K hK=>?_);apply Exists.intro;refine ⟨fun w2 h2=>?_,?_⟩;(next=>(have g1:=Below.cells h2.below;have g2:=Below.frozens h2.below;(try simp only [World.size_alloc,World.size_setCell] at g1 g2);first | (go_simp;(fail)) | (simp [go_sem,↓IntWalk.iteOmega, *];done) | (simp [go_sem,↓IntWalk.iteOmega, *];rfl))));(go_simp;refine hK _ ?_;clear hK K))
 refine wpQuiet_nil ?_
 intro w5 h5
 have hb5:=h5.below
 clear h5
 change wpAny _ _ _ _ 5 _ _ _
 have z5:=hb5.size
 have c5:=Below.cells hb5
 have f5:=Below.frozens hb5
 try simp only [World.size_alloc,World.size_setCell,World.size_drew] at z5 c5 f5
 refine wpAny_ready (rs:=[14]) (by kernel_rfl) (by simp) ?_
 refine AllReady.cons rfl (fun K hK=>?_) AllReady.nil
 rw [if_pos (by rfl)]
 go_simp
 refine (HHr.out w5 (HNr.out.below hb5)).mono ?_
 rintro e w6 ⟨rfl,rep,kept⟩
 have N6:=Lib.hid ((HRep.out.below hb5).node (M:=w6.heap.size) HT.out rep ⟨kept.size,Nat.le_refl _⟩ (fun x hx=>.inl hx) kept HEv.out)
 have K5:=Lib.hid (Kept.of_below (f:=f) hb5)
 have z5':=hb5.size
 clear rep kept
 go_simp
 refine hK _ _ ?_
 clear hK K
 (refine wpAny_take (i:=15) (v:=?_) rfl (by kernel_rfl) (by kernel_rfl) (by kernel_rfl) (fun _ _ _ h=>h) (Or.inl ⟨by rfl,?_⟩) ?_;(rotate_left;(intro w;go_simp;try with_reducible rfl)))
 (refine wpAny_take (i:=16) (v:=?_) rfl (by kernel_rfl) (by kernel_rfl) (by kernel_rfl) (fun _ _ _ h=>h) (Or.inl ⟨by rfl,?_⟩) ?_;(rotate_left;(intro w;go_simp;try with_reducible rfl)))
 (refine wpAny_take (i:=17) (v:=?_) rfl (by kernel_rfl) (by kernel_rfl) (by kernel_rfl) (fun _ _ _ h=>h) (Or.inl ⟨by rfl,?_⟩) ?_;(rotate_left;(intro w;go_simp;try with_reducible rfl)))
 (refine wpAny_take (i:=18) (v:=?_) rfl (by kernel_rfl) (by kernel_rfl) (by kernel_rfl) (fun _ _ _ h=>h) (Or.inl ⟨by rfl,?_⟩) ?_;(rotate_left;(intro w;go_simp;try with_reducible rfl)))
 refine wpAny_done (by kernel_rfl) ?_ _
 go_simp
 go_wp2_with fail
 go_ret2
 refine ⟨rfl,⟨_,⟨_,_,_,_,_,_,_,_,_,N6.out.1⟩,fun x hx=>hx.imp (fun h=>h) (fun h=>by omega)⟩,K5.out.trans N6.out.2 (fun x _ hx=>hx)⟩
end
end Go.Proofs.YtnaebigoknfndaaGreatDoor
namespace Go.Proofs.YtnaebigoknfndaaGreatDoor
open Go Go.RowKit
def TLen (w:World) (t n m:Nat):Prop:=∃ A1 A2 A3 A4 c1 c2 c3 c4,w.heap[t]? = some (.cells #[.slice A1 n c1,.slice A2 n c2,.slice A3 n c3,.slice A4 m c4] 147 (0,0))
theorem TLen.cells {w:World} {t n m:Nat} (h:TLen w t n m):∃ A2 A3 A4 c2 c3 c4,w.cell? ⟨t,1,none⟩=some (.slice A2 n c2)∧w.cell? ⟨t,2,none⟩=some (.slice A3 n c3)∧w.cell? ⟨t,3,none⟩=some (.slice A4 m c4)∧t<w.heap.size:=by
 obtain ⟨A1,A2,A3,A4,c1,c2,c3,c4,h⟩:=h
 exact ⟨A2,A3,A4,c2,c3,c4,by simp [World.cell?,h],by simp [World.cell?,h],by simp [World.cell?,h],(Array.getElem?_eq_some_iff.1 h).1⟩
section
variable {w w1:World} {t n m:Nat} {S:TSt} {f:Nat→Prop}
theorem TRep.tlen (h:TRep w t S f):TLen w t S.n S.way.length:=by
 obtain ⟨c,ga,gn,gd,ca,cn,cd,wv,bs,h⟩:=h
 obtain ⟨A4,c4,e,_⟩:=own_form h.way
 have:=h.1
 rw [e] at this
 exact ⟨_,_,_,_,_,_,_,_,this⟩
theorem TRep.deadAt (h:TRep w t S f) {i:Nat} (hi:i<S.n):∃ A2 A3 c2 c3 g,w.cell? ⟨t,1,none⟩=some (.slice A2 S.n c2)∧w.cell? ⟨t,2,none⟩=some (.slice (some ⟨g,0,none⟩) S.n c3)∧w.cell? ⟨g,i,none⟩=some (.bool (S.dead i))∧g<w.heap.size∧A3=some (⟨g,0,none⟩:Addr):=by
 obtain ⟨c,ga,gn,gd,ca,cn,cd,wv,bs,h⟩:=h
 obtain ⟨k0,k1,k2,k3,kf⟩:=h.cells
 obtain ⟨_,p1,p2,nr,tl,nl,dl,_⟩:=h.parts hi
 exact ⟨_,_,_,_,gd,k1,k2,p2,dl,rfl⟩
theorem tlose_err (w:World) (h:TLen w t n m) (i:Int) (hi0:0≤i) (hi:m≤i) (hm:m≤1000000) :
  Calls Tryz.prog 87 #[.pointer (some ⟨t,0,none⟩),.int .i64 i] w fun e w'=>e=.returned (.int .i64 4)∧Below w.heap.size w w':=by
 obtain ⟨A2,A3,A4,c2,c3,c4,k1,k2,k3,tl⟩:=h.cells
 have i0:¬ i<0:=by omega
 have i2:decide ((m:Int)≤i)=true:=by simp;omega
 clear h
 go_enter Tryz.func87,Tryz.ntmps87
 go_wp2_with fail
 refine bodyPost_ret (v:=.int .i64 4) (by simp [results,Tryz.results87,go_sem]) rfl ?_
 exact ⟨rfl,Below.refl _ _⟩
theorem tstop_err (w:World) (h:TLen w t n m) (i:Int)  (hi0:0≤i) (hi:n≤i) (hn:n≤1000000) :
  Calls Tryz.prog 89 #[.pointer (some ⟨t,0,none⟩),.int .i64 i] w fun e w'=>e=.returned (.int .i64 4)∧Below w.heap.size w w':=by
 obtain ⟨A2,A3,A4,c2,c3,c4,k1,k2,k3,tl⟩:=h.cells
 have i0:¬ i<0:=by omega
 have i2:decide ((n:Int)≤i)=true:=by simp;omega
 clear h
 go_enter Tryz.func89,Tryz.ntmps89
 go_wp2_with fail
 refine bodyPost_ret (v:=.int .i64 4) (by simp [results,Tryz.results89,go_sem]) rfl ?_
 exact ⟨rfl,Below.refl _ _⟩
theorem tstop_dead (w:World) {i:Nat} (h:TRep w t S f)  (hi:i<S.n) (hd:S.dead i=true) (hn:S.n≤1000000) :
  Calls Tryz.prog 89 #[.pointer (some ⟨t,0,none⟩),.int .i64 i] w fun e w'=>e=.returned (.int .i64 4)∧Below w.heap.size w w':=by
 obtain ⟨A2,A3,c2,c3,g,k1,k2,p2,gl,_⟩:=h.deadAt hi
 rw [hd] at p2
 obtain ⟨N,hN⟩:∃ N,S.n=N:=⟨_,rfl⟩
 rw [hN] at k1 k2 hi hn
 have tl:=h.lt t h.ft
 have i0:¬ (i:Int)<0:=by omega
 have i1:(i:Int)<N:=by omega
 have i2:decide ((N:Int)≤i)=false:=by simp;omega
 clear h hd hN
 go_enter Tryz.func89,Tryz.ntmps89
 go_wp2_with fail
 refine bodyPost_ret (v:=.int .i64 4) (by simp [results,Tryz.results89,go_sem]) rfl ?_
 exact ⟨rfl,Below.refl _ _⟩
theorem tlevel_err (w:World) (h:TLen w t n m) (i:Int) (id:ByteArray) (hi0:0≤i) (hi:n≤i) (hn:n≤1000000) :
  Calls Tryz.prog 91 #[.pointer (some ⟨t,0,none⟩),.int .i64 i,.string id] w fun e w'=>e=.returned (.tuple #[.int .i64 0,.int .i64 4])∧Below w.heap.size w w':=by
 obtain ⟨A2,A3,A4,c2,c3,c4,k1,k2,k3,tl⟩:=h.cells
 have i0:¬ i<0:=by omega
 have i2:decide ((n:Int)≤i)=true:=by simp;omega
 clear h
 go_enter Tryz.func91,Tryz.ntmps91
 go_wp2_with fail
 refine bodyPost_ret (v:=.tuple #[.int .i64 0,.int .i64 4]) (by simp [results,Tryz.results91,go_sem]) rfl ?_
 exact ⟨rfl,Below.refl _ _⟩
theorem tlevel_dead (w:World) {i:Nat} (h:TRep w t S f) (id:ByteArray) (hi:i<S.n) (hd:S.dead i=true) (hn:S.n≤1000000) :
  Calls Tryz.prog 91 #[.pointer (some ⟨t,0,none⟩),.int .i64 i,.string id] w fun e w'=>e=.returned (.tuple #[.int .i64 0,.int .i64 4])∧Below w.heap.size w w':=by
 obtain ⟨A2,A3,c2,c3,g,k1,k2,p2,gl,_⟩:=h.deadAt hi
 rw [hd] at p2
 obtain ⟨N,hN⟩:∃ N,S.n=N:=⟨_,rfl⟩
 rw [hN] at k1 k2 hi hn
 have tl:=h.lt t h.ft
 have i0:¬ (i:Int)<0:=by omega
 have i1:(i:Int)<N:=by omega
 have i2:decide ((N:Int)≤i)=false:=by simp;omega
 clear h hd hN
 go_enter Tryz.func91,Tryz.ntmps91
 go_wp2_with fail
 refine bodyPost_ret (v:=.tuple #[.int .i64 0,.int .i64 4]) (by simp [results,Tryz.results91,go_sem]) rfl ?_
 exact ⟨rfl,Below.refl _ _⟩
theorem tjoin_err (w:World) (h:TLen w t n m) (i:Int) (id:ByteArray) (th:Int) (hi0:0≤i) (hi:n≤i) (hn:n≤1000000) :
  Calls Tryz.prog 93 #[.pointer (some ⟨t,0,none⟩),.int .i64 i,.string id,.int .i64 th] w fun e w'=>e=.returned (.tuple #[.slice none 0 0,.int .i64 4])∧Below w.heap.size w w':=by
 obtain ⟨A2,A3,A4,c2,c3,c4,k1,k2,k3,tl⟩:=h.cells
 have i0:¬ i<0:=by omega
 have i2:decide ((n:Int)≤i)=true:=by simp;omega
 clear h
 go_enter Tryz.func93,Tryz.ntmps93
 go_wp2_with fail
 refine bodyPost_ret (v:=.tuple #[.slice none 0 0,.int .i64 4]) (by simp [results,Tryz.results93,go_sem]) rfl ?_
 exact ⟨rfl,Below.refl _ _⟩
theorem tjoin_dead (w:World) {i:Nat} (h:TRep w t S f) (id:ByteArray) (th:Int) (hi:i<S.n) (hd:S.dead i=true) (hn:S.n≤1000000) :
  Calls Tryz.prog 93 #[.pointer (some ⟨t,0,none⟩),.int .i64 i,.string id,.int .i64 th] w fun e w'=>e=.returned (.tuple #[.slice none 0 0,.int .i64 4])∧Below w.heap.size w w':=by
 obtain ⟨A2,A3,c2,c3,g,k1,k2,p2,gl,_⟩:=h.deadAt hi
 rw [hd] at p2
 obtain ⟨N,hN⟩:∃ N,S.n=N:=⟨_,rfl⟩
 rw [hN] at k1 k2 hi hn
 have tl:=h.lt t h.ft
 have i0:¬ (i:Int)<0:=by omega
 have i1:(i:Int)<N:=by omega
 have i2:decide ((N:Int)≤i)=false:=by simp;omega
 clear h hd hN
 go_enter Tryz.func93,Tryz.ntmps93
 go_wp2_with fail
 refine bodyPost_ret (v:=.tuple #[.slice none 0 0,.int .i64 4]) (by simp [results,Tryz.results93,go_sem]) rfl ?_
 exact ⟨rfl,Below.refl _ _⟩
theorem tbring_err1 (w:World) (h:TLen w t n m) (i u:Int) (hi0:0≤i) (hi:m≤i) (hm:m≤1000000) :
  Calls Tryz.prog 85 #[.pointer (some ⟨t,0,none⟩),.int .i64 i,.int .i64 u] w fun e w'=>e=.returned (.tuple #[.slice none 0 0,.int .i64 4])∧Below w.heap.size w w':=by
 obtain ⟨A2,A3,A4,c2,c3,c4,k1,k2,k3,tl⟩:=h.cells
 have i0:¬ i<0:=by omega
 have i2:decide ((m:Int)≤i)=true:=by simp;omega
 clear h
 go_enter Tryz.func85,Tryz.ntmps85
 go_wp2_with fail
 refine bodyPost_ret (v:=.tuple #[.slice none 0 0,.int .i64 4]) (by simp [results,Tryz.results85,go_sem]) rfl ?_
 exact ⟨rfl,Below.refl _ _⟩
theorem tbring_err2 (w:World) (h:TLen w t n m) (i u:Int) (hi0:0≤i) (hi:i<m) (hm:m≤1000000) (hu0:0≤u) (hu:n≤u) (hn:n≤1000000) :
  Calls Tryz.prog 85 #[.pointer (some ⟨t,0,none⟩),.int .i64 i,.int .i64 u] w fun e w'=>e=.returned (.tuple #[.slice none 0 0,.int .i64 4])∧Below w.heap.size w w':=by
 obtain ⟨A2,A3,A4,c2,c3,c4,k1,k2,k3,tl⟩:=h.cells
 have i0:¬ i<0:=by omega
 have i2:decide ((m:Int)≤i)=false:=by simp;omega
 have j0:¬ u<0:=by omega
 have j2:decide ((n:Int)≤u)=true:=by simp;omega
 clear h
 go_enter Tryz.func85,Tryz.ntmps85
 go_wp2_with fail
 refine bodyPost_ret (v:=.tuple #[.slice none 0 0,.int .i64 4]) (by simp [results,Tryz.results85,go_sem]) rfl ?_
 exact ⟨rfl,Below.refl _ _⟩
theorem tbring_dead (w:World) {u:Nat} (h:TRep w t S f) (i:Int) (hi0:0≤i) (hi:i<S.way.length) (hm:S.way.length≤1000000) (hu:u<S.n) (hd:S.dead u=true) (hn:S.n≤1000000) :
  Calls Tryz.prog 85 #[.pointer (some ⟨t,0,none⟩),.int .i64 i,.int .i64 u] w fun e w'=>e=.returned (.tuple #[.slice none 0 0,.int .i64 4])∧Below w.heap.size w w':=by
 obtain ⟨A4,c4,k3⟩:∃ A4 c4,w.cell? ⟨t,3,none⟩=some (.slice A4 S.way.length c4):=by
  obtain ⟨_,_,A4,_,_,c4,_,_,k3,_⟩:=h.tlen.cells
  exact ⟨A4,c4,k3⟩
 obtain ⟨A2,A3,c2,c3,g,k1,k2,p2,gl,_⟩:=h.deadAt hu
 rw [hd] at p2
 obtain ⟨N,hN⟩:∃ N,S.n=N:=⟨_,rfl⟩
 obtain ⟨M,hM⟩:∃ N,S.way.length=N:=⟨_,rfl⟩
 rw [hN] at k1 k2 hu hn
 rw [hM] at k3 hi hm
 have tl:=h.lt t h.ft
 have i0:¬ i<0:=by omega
 have i2:decide ((M:Int)≤i)=false:=by simp;omega
 have j0:¬ (u:Int)<0:=by omega
 have j1:(u:Int)<N:=by omega
 have j3:(0:Int)≤u:=by omega
 have j2:decide ((N:Int)≤u)=false:=by simp;omega
 clear h hd hN hM
 go_enter Tryz.func85,Tryz.ntmps85
 go_wp2_with fail
 refine bodyPost_ret (v:=.tuple #[.slice none 0 0,.int .i64 4]) (by simp [results,Tryz.results85,go_sem]) rfl ?_
 exact ⟨rfl,Below.refl _ _⟩
theorem ttick_arg (w:World) (g:Int) (hg:g<1∨1000<g) :
  Calls Tryz.prog 83 #[.pointer (some ⟨t,0,none⟩),.int .i64 g] w fun e w'=>e=.returned (.tuple #[.slice none 0 0,.int .i64 1])∧Below w.heap.size w w':=by
 rcases (by omega:g<1∨(¬ g<1∧1000<g)) with h1 | ⟨h1,h2⟩
 all_goals
  clear hg
  go_enter Tryz.func83,Tryz.ntmps83
  go_wp2_with fail
  refine bodyPost_ret (v:=.tuple #[.slice none 0 0,.int .i64 1]) (by simp [results,Tryz.results83,go_sem]) rfl ?_
  exact ⟨rfl,Below.refl _ _⟩
end
end Go.Proofs.YtnaebigoknfndaaGreatDoor
namespace Go.Proofs.YtnaebigoknfndaaGreatDoor
open Go Go.RowKit
section
variable {w1:World} {t i:Nat} {S:TSt} {f:Nat→Prop}
def joinE (s:NSt) (id:ByteArray) (th:Int):Int:=if has s.peers id=true then (if 0≤idxS (hitS id th) s.subs then 5 else if s.subs.length<8 then 0 else 10) else 4
theorem tbring_row (w:World) {u:Nat} {id:ByteArray} {q:Int} (h:TRep w t S f) (hi:i<S.way.length) (ht:u<S.n) (hd:S.dead u=false) (ok:NOK (S.nd u)) (hid:IdOK (byts id)) (hq:1≤q∧q<2147483648) (hx:S.way.getD i ⟨#[]⟩=mkB (encL (byts id) 0 q.toNat)) (hhas:has (S.nd u).peers id=true) :
  Calls Tryz.prog 85 #[.pointer (some ⟨t,0,none⟩),.int .i64 i,.int .i64 u] w fun e w'=>∃ A' c' m f',e=.returned (.tuple #[.slice A' (hearF (S.nd u) id q).2.length c',.int .i64 (if newB (S.nd u) id q=true then 0 else 5)])∧w'.ownsRow m 155 3 (.slice A' (hearF (S.nd u) id q).2.length c') (hearF (S.nd u) id q).2.length (notesC (hearF (S.nd u) id q).2)∧TRep w' t (setN S u (hearF (S.nd u) id q).1) f'∧(∀ x,f' x→f x∨w.heap.size≤x)∧Kept f w w':=by
 obtain ⟨c,ga,gn,gd,ca,cn,cd,wv,bs,h⟩:=h
 obtain ⟨_,k1,k2,k3,_⟩:=h.cells
 obtain ⟨_,p1,p2,nr,tl,nl,dl,_⟩:=h.parts ht
 obtain ⟨gw,cw,rfl,wl,xw⟩:=h.wayAt hi
 rw [hx] at xw
 rw [hd] at p2
 have HRep:=Lib.hid h
 have HT:=Lib.hid ht
 have HNr:=Lib.hid nr
 have HHr:=Lib.hid (fun w' (r:NRep w' (bs u) (S.nd u) (fun x=>f x∧c x=u+5))=>ahear w' r ok hid hq)
 have HEv:=Lib.hid (show (hearF (S.nd u) id q).1.every=(S.nd u).every from hearF_same.2.2.1)
 obtain ⟨tx,htx⟩:∃ x,mkB (encL (byts id) 0 q.toNat)=x:=⟨_,rfl⟩
 rw [htx] at xw HHr
 obtain ⟨E0,hE0⟩:∃ E0:Int,(if newB (S.nd u) id q=true then 0 else 5)=E0:=⟨_,rfl⟩
 have HHas:=Lib.hid (show ∀ e0:Int,(has (S.nd u).peers id=true→newB (S.nd u) id q=true→e0=0)∧(has (S.nd u).peers id=true→newB (S.nd u) id q=false→e0=5)∧(has (S.nd u).peers id=false→(e0 != 0)=true)→e0=E0 from fun e0 he=>by
  rw [← hE0]
  cases hnb:newB (S.nd u) id q with
  | true=>rw [if_pos rfl];exact he.1 hhas hnb
  | false=>rw [if_neg (by simp)];exact he.2.1 hhas hnb)
 rw [hE0]
 obtain ⟨R,hR⟩:∃ R,hearF (S.nd u) id q=R:=⟨_,rfl⟩
 rw [hR] at HHr HEv ⊢
 obtain ⟨n,hn⟩:∃ n,S.n=n:=⟨_,rfl⟩
 rw [hn] at k1 k2 ht
 obtain ⟨m,hm⟩:∃ m,S.way.length=m:=⟨_,rfl⟩
 rw [hm] at k3 hi
 have i0:¬ (i:Int)<0:=by omega
 have i1:(i:Int)<m:=by omega
 have i2:decide ((m:Int)≤i)=false:=by simp;omega
 have j0:¬ (u:Int)<0:=by omega
 have j1:(u:Int)<n:=by omega
 have j2:decide ((n:Int)≤u)=false:=by simp;omega
 clear h nr ok hd hn hm htx hR hx hid hq hE0 hhas
 go_enter Tryz.func85,Tryz.ntmps85
 go_wp2_with fail
 refine wp_region_quiet_then 14 #[true,true,true,true,true,true,true,true,true,true,true,true,true,true,false,false,false,false,false] (Ext _) (by kernel_rfl) (by kernel_rfl) (Ext.drawn _) ?_
 simp only [List.take_succ_cons,List.take_zero]
 repeat (first | go_big_quiet_skip | go_big_quiet_step (fail) | (refine BigFrame.wpQuiet_want rfl (fun K hK=>?_);apply Exists.intro;refine ⟨fun w2 h2=>?_,?_⟩;(next=>(have g1:=Below.cells h2.below;have g2:=Below.frozens h2.below;(try simp only [World.size_alloc,World.size_setCell] at g1 g2);first | (go_simp;(fail)) | (simp [go_sem,↓IntWalk.iteOmega, *];done) | (simp [go_sem,↓IntWalk.iteOmega, *];rfl))));(go_simp;refine hK _ ?_;clear hK K))
 refine wpQuiet_nil ?_
 intro w5 h5
 have hb5:=h5.below
 clear h5
 change wpAny _ _ _ _ 5 _ _ _
 have z5:=hb5.size
 have c5:=Below.cells hb5
 have f5:=Below.frozens hb5
 try simp only [World.size_alloc,World.size_setCell,World.size_drew] at z5 c5 f5
 refine wpAny_ready (rs:=[14]) (by kernel_rfl) (by simp) ?_
 refine AllReady.cons rfl (fun K hK=>?_) AllReady.nil
 rw [if_pos (by rfl)]
 go_simp
 refine (HHr.out w5 (HNr.out.below hb5)).mono ?_
 rintro e w6 ⟨A',c',mm,e0,rfl,own,rep,hm1,hm2,kept,he⟩
 obtain rfl:=HHas.out e0 he
 have OW:=Lib.hid own
 have N6:=Lib.hid ((HRep.out.below hb5).node (M:=w6.heap.size) HT.out rep ⟨kept.size,Nat.le_refl _⟩ (fun x hx=>hx.imp (fun h=>h) (fun h=>⟨h.1,by omega⟩)) kept HEv.out)
 have K5:=Lib.hid (Kept.of_below (f:=f) hb5)
 have z5':=hb5.size
 clear own rep kept he
 go_simp
 refine hK _ _ ?_
 clear hK K
 (refine wpAny_take (i:=15) (v:=?_) rfl (by kernel_rfl) (by kernel_rfl) (by kernel_rfl) (fun _ _ _ h=>h) (Or.inl ⟨by rfl,?_⟩) ?_;(rotate_left;(intro w;go_simp;try with_reducible rfl)))
 (refine wpAny_take (i:=16) (v:=?_) rfl (by kernel_rfl) (by kernel_rfl) (by kernel_rfl) (fun _ _ _ h=>h) (Or.inl ⟨by rfl,?_⟩) ?_;(rotate_left;(intro w;go_simp;try with_reducible rfl)))
 (refine wpAny_take (i:=17) (v:=?_) rfl (by kernel_rfl) (by kernel_rfl) (by kernel_rfl) (fun _ _ _ h=>h) (Or.inl ⟨by rfl,?_⟩) ?_;(rotate_left;(intro w;go_simp;try with_reducible rfl)))
 (refine wpAny_take (i:=18) (v:=?_) rfl (by kernel_rfl) (by kernel_rfl) (by kernel_rfl) (fun _ _ _ h=>h) (Or.inl ⟨by rfl,?_⟩) ?_;(rotate_left;(intro w;go_simp;try with_reducible rfl)))
 refine wpAny_done (by kernel_rfl) ?_ _
 go_simp
 go_wp2_with fail
 go_ret2
 refine ⟨A',c',mm,_,rfl,OW.out,⟨_,_,_,_,_,_,_,_,_,N6.out.1⟩,fun x hx=>hx.imp (fun h=>h) (fun h=>by omega),K5.out.trans N6.out.2 (fun x _ hx=>hx)⟩
theorem tjoin_row (w:World) (id:ByteArray) (th:Int) (h:TRep w t S f) (hi:i<S.n) (hd:S.dead i=false) (ok:NOK (S.nd i)) (ht:1≤th∧th≤60) :
  Calls Tryz.prog 93 #[.pointer (some ⟨t,0,none⟩),.int .i64 i,.string id,.int .i64 th] w fun e w'=>∃ A' c' m f',e=.returned (.tuple #[.slice A' (joinF (S.nd i) id th).2.length c',.int .i64 (joinE (S.nd i) id th)])∧w'.ownsRow m 155 3 (.slice A' (joinF (S.nd i) id th).2.length c') (joinF (S.nd i) id th).2.length (notesC (joinF (S.nd i) id th).2)∧TRep w' t (setN S i (joinF (S.nd i) id th).1) f'∧(∀ x,f' x→f x∨w.heap.size≤x)∧Kept f w w':=by
 obtain ⟨c,ga,gn,gd,ca,cn,cd,wv,bs,h⟩:=h
 obtain ⟨_,k1,k2,_,_⟩:=h.cells
 obtain ⟨_,p1,p2,nr,tl,nl,dl,_⟩:=h.parts hi
 rw [hd] at p2
 have HRep:=Lib.hid h
 have HI:=Lib.hid hi
 have HNr:=Lib.hid nr
 have HJ:=Lib.hid (fun w' (r:NRep w' (bs i) (S.nd i) (fun x=>f x∧c x=i+5))=>ajoin (id:=id) (th:=th) w' r ok ht)
 have HJE:=Lib.hid (show ∀ e0:Int,(e0=if has (S.nd i).peers id=true then (if 0≤idxS (hitS id th) (S.nd i).subs then 5 else if (S.nd i).subs.length<8 then 0 else 10) else 4)→e0=joinE (S.nd i) id th from fun e0 h=>h)
 obtain ⟨E0,hE0⟩:∃ E0,joinE (S.nd i) id th=E0:=⟨_,rfl⟩
 rw [hE0] at HJE ⊢
 have HEv:=Lib.hid (show (joinF (S.nd i) id th).1.every=(S.nd i).every by unfold joinF;split <;> rfl)
 obtain ⟨R,hR⟩:∃ R,joinF (S.nd i) id th=R:=⟨_,rfl⟩
 rw [hR] at HJ HEv ⊢
 obtain ⟨n,hn⟩:∃ n,S.n=n:=⟨_,rfl⟩
 rw [hn] at k1 k2 hi
 have i0:¬ (i:Int)<0:=by omega
 have i1:(i:Int)<n:=by omega
 have i2:decide ((n:Int)≤i)=false:=by simp;omega
 clear h nr ok hd hn hR hE0 ht
 go_enter Tryz.func93,Tryz.ntmps93
 go_wp2_with fail
 refine (HJ.out _ HNr.out).mono ?_
 rintro e w6 ⟨A',c',mm,e0,rfl,own,rep,hm1,hm2,kept,he⟩
 obtain rfl:=HJE.out e0 he
 have OW:=Lib.hid own
 have N6:=Lib.hid (HRep.out.node (M:=w6.heap.size) HI.out rep ⟨kept.size,Nat.le_refl _⟩ (fun x hx=>hx.imp (fun h=>h) (fun h=>⟨h.1,by omega⟩)) kept HEv.out)
 clear own rep kept he
 go_wp2_with fail
 go_ret2
 exact ⟨A',c',mm,_,rfl,OW.out,⟨_,_,_,_,_,_,_,_,_,N6.out.1⟩,fun x hx=>hx.imp (fun h=>h) (fun h=>h.1),N6.out.2⟩
end
end Go.Proofs.YtnaebigoknfndaaGreatDoor
namespace Go.Proofs.YtnaebigoknfndaaGreatDoor
open Go Go.RowKit
def SubsOK (s:NSt):Prop:=∀ u,u∈s.subs→IdOK (byts u.id)∧1≤u.theta∧u.theta≤60
def NotesOK (l:List Note):Prop:=l.length≤40∧∀ x,x∈l→IdOK (byts x.id)∧1≤x.theta∧x.theta≤60
theorem SubsOK.tell {s:NSt} (h:SubsOK s):SubsOK (tellS s):=fun u hu=>by
 obtain ⟨v,hv,rfl⟩:=List.mem_map.1 (show u∈s.subs.map (upd s) from hu)
 exact h v hv
theorem SubsOK.same {s t:NSt} (h:SubsOK s) (e:t.subs=s.subs):SubsOK t:=fun u hu=>h u (by rw [← e];exact hu)
theorem toldN_mem {s:NSt} (h:SubsOK s):∀ x,x∈toldN s→IdOK (byts x.id)∧1≤x.theta∧x.theta≤60:=fun x hx=>by
 obtain ⟨u,hu,hx⟩:=List.mem_flatMap.1 hx
 unfold noteOf at hx
 split at hx
 ·cases hx
 ·rw [List.mem_singleton.1 hx];exact h u hu
theorem toldN_len {s:NSt} (h:s.subs.length≤8):(toldN s).length≤8:=by
 have key:∀ l:List Sub,(l.flatMap (noteOf s)).length≤l.length:=by
  intro l
  induction l with
  | nil=>simp
  | cons u l ih=>
   rw [List.flatMap_cons,List.length_append,List.length_cons]
   have:(noteOf s u).length≤1:=by unfold noteOf;split <;> simp
   omega
 exact Nat.le_trans (key _) h
theorem toldN_ok {s:NSt} (h:SubsOK s) (h8:s.subs.length≤8):NotesOK (toldN s):=⟨by have:=toldN_len h8;omega,toldN_mem h⟩
theorem NotesOK.nil:NotesOK []:=⟨by simp,fun x hx=>by cases hx⟩
structure TownOK (T:TSt):Prop where
 n:T.n≤5
 tn:∀ j,j<T.n→TN (T.nd j)
 subs:∀ j,j<T.n→SubsOK (T.nd j)
 len:T.way.length≤1000
 way:∀ x,x∈T.way→∃ (id:ByteArray) (q:Int),IdOK (byts id)∧1≤q∧q<2147483648∧x=mkB (encL (byts id) 0 q.toNat)
variable {T:TSt}
theorem TownOK.stop (h:TownOK T) (i:Nat):TownOK (stopN T i):=⟨h.n,h.tn,h.subs,h.len,h.way⟩
theorem TownOK.lose (h:TownOK T) (i:Nat):TownOK (wayN T (T.way.eraseIdx i)):=
 ⟨h.n,h.tn,h.subs,Nat.le_trans (List.length_eraseIdx_le _ _) h.len,fun x hx=>h.way x (List.mem_of_mem_eraseIdx hx)⟩
theorem TownOK.node (h:TownOK T) {u:Nat} {s:NSt} (h1:TN s) (h2:SubsOK s):TownOK (setN T u s):=by
 refine ⟨h.n,fun j hj=>?_,fun j hj=>?_,h.len,h.way⟩
 ·by_cases e:j=u
  ·subst e;rw [setN_at];exact h1
  ·rw [setN_ne _ _ e];exact h.tn j hj
 ·by_cases e:j=u
  ·subst e;rw [setN_at];exact h2
  ·rw [setN_ne _ _ e];exact h.subs j hj
theorem TownOK.text (h:TownOK T) {i:Nat} (hi:i<T.way.length):∃ (id:ByteArray) (q:Int),IdOK (byts id)∧(1≤q∧q<2147483648)∧T.way.getD i ⟨#[]⟩=mkB (encL (byts id) 0 q.toNat):=by
 obtain ⟨id,q,h1,h2,h3,h4⟩:=h.way (T.way.getD i ⟨#[]⟩) (by rw [List.getD_eq_getElem?_getD,List.getElem?_eq_getElem hi];exact List.getElem_mem _)
 exact ⟨id,q,h1,⟨h2,h3⟩,h4⟩
theorem hear_subs {s:NSt} {id:ByteArray} {q:Int} (h:SubsOK s):SubsOK (hearF s id q).1:=by
 unfold hearF
 split
 ·split
  ·exact SubsOK.tell (SubsOK.same h rfl)
  ·exact SubsOK.same h rfl
 ·exact SubsOK.same h rfl
theorem hear_notes {s:NSt} {id:ByteArray} {q:Int} (h:SubsOK s) (h8:s.subs.length≤8):NotesOK (hearF s id q).2:=by
 unfold hearF
 split
 ·split
  ·exact toldN_ok (SubsOK.same h rfl) h8
  ·exact NotesOK.nil
 ·exact NotesOK.nil
theorem has_ok {s:NSt} {id:ByteArray} (ok:NOK s) (h:has s.peers id=true):IdOK (byts id):=by
 obtain ⟨p,hp,rfl⟩:=(has_iff ok.tab.order id).1 h
 exact (ok.tab.each p hp).id
theorem joinS_subs {s:NSt} {id:ByteArray} {th:Int} (h:SubsOK s) (hid:IdOK (byts id)) (ht:1≤th∧th≤60):SubsOK (joinS s id th):=fun u hu=>by
 have hu:u∈s.subs ++ [⟨id,th,false⟩]:=hu
 rcases List.mem_append.1 hu with hu | hu
 ·exact h u hu
 ·rw [List.mem_singleton.1 hu];exact ⟨hid,ht⟩
theorem join_keeps {s:NSt} {id:ByteArray} {th:Int} (tn:TN s) (h:SubsOK s) (ht:1≤th∧th≤60):TN (joinF s id th).1∧SubsOK (joinF s id th).1∧NotesOK (joinF s id th).2:=by
 unfold joinF
 split
 ·rename_i hc
  have hs:=joinS_subs (th:=th) h (has_ok tn.ok hc.1) ht
  have ok:=tn.ok.join id th hc.2.2
  exact ⟨TN.tell ⟨ok,tn.inc,tn.seq⟩,hs.tell,toldN_ok hs ok.subs⟩
 ·exact ⟨tn,h,NotesOK.nil⟩
theorem joinE_bd (s:NSt) (id:ByteArray) (th:Int):0≤joinE s id th∧joinE s id th≤10:=by
 unfold joinE
 split
 ·split
  ·decide
  ·split <;> decide
 ·decide
theorem TownOK.tick (h:TownOK T) {g:Int} (ok:TickOK T g) (hw:T.way.length+sumM T g T.n≤1000):TownOK (twS T g T.n)∧NotesOK (twN T g T.n):=by
 have hg:=ok.gb
 refine ⟨⟨h.n,fun j hj=>?_,fun j hj=>?_,by rw [sumM_way];exact hw,fun x hx=>?_⟩,?_,fun x hx=>?_⟩
 ·have hj:j<T.n:=hj
  rw [twS_nd hj]
  cases hd:T.dead j with
  | true=>rw [tk_dead hd];exact h.tn j hj
  | false=>rw [tk_live hd];exact ((h.tn j hj).tick hg.1 (ok.room j hj hd).1).tell
 ·have hj:j<T.n:=hj
  rw [twS_nd hj]
  cases hd:T.dead j with
  | true=>rw [tk_dead hd];exact h.subs j hj
  | false=>rw [tk_live hd];exact SubsOK.tell (SubsOK.same (h.subs j hj) rfl)
 ·have hx':x∈T.way++(List.range T.n).flatMap (txN T g):=hx
  rcases List.mem_append.1 hx' with hx | hx
  ·exact h.way x hx
  ·obtain ⟨j,hj,hx⟩:=List.mem_flatMap.1 hx
   have hj:=List.mem_range.1 hj
   cases hd:T.dead j with
   | true=>unfold txN at hx;rw [if_pos hd] at hx;cases hx
   | false=>
    unfold txN at hx
    rw [hd] at hx
    have hx:x∈sentB (T.nd j).id 0 ((T.nd j).now / (T.nd j).every).toNat (mT (T.nd j) g):=hx
    obtain ⟨k,hk,rfl⟩:=List.mem_map.1 hx
    have hk:=List.mem_range.1 hk
    unfold mT at hk
    have nw:=(h.tn j hj).ok.now
    have ev:=(h.tn j hj).ok.every
    have rm:=(ok.room j hj hd).1
    have s0:=Go.Proofs.YtnaebigoknfndaaGreatDoor.seq_le (n:=(T.nd j).now) (E:=(T.nd j).every) (by omega) ev.1
    have s1:=Go.Proofs.YtnaebigoknfndaaGreatDoor.seq_le (n:=(T.nd j).now+g) (E:=(T.nd j).every) (by omega) ev.1
    exact ⟨(T.nd j).id,(((T.nd j).now / (T.nd j).every).toNat+1+k:Nat),(h.tn j hj).ok.id,by omega,by omega,rfl⟩
 ·have:=notes_le ok T.n (Nat.le_refl _)
  have:=h.n
  omega
 ·obtain ⟨j,hj,hx⟩:=List.mem_flatMap.1 hx
  have hj:=List.mem_range.1 hj
  unfold noN at hx
  split at hx
  ·cases hx
  ·exact toldN_mem (s:=tickS (T.nd j) g) (SubsOK.same (h.subs j hj) rfl) x hx
theorem room_cases (h:TownOK T) {g:Int} (hg:1≤g∧g≤1000):TickOK T g∨∃ J,J<T.n∧TickOK { T with n:=J } g∧T.dead J=false∧(1073741824<(T.nd J).now+g∨64≤g / (T.nd J).every):=by
 have key:∀ m,m≤T.n→(∀ j,j<m→T.dead j=false→(T.nd j).now+g≤1073741824∧g / (T.nd j).every<64)∨∃ J,J<m∧(∀ j,j<J→T.dead j=false→(T.nd j).now+g≤1073741824∧g / (T.nd j).every<64)∧T.dead J=false∧(1073741824<(T.nd J).now+g∨64≤g / (T.nd J).every):=by
  intro m
  induction m with
  | zero=>intro _;exact .inl fun j hj=>absurd hj (by omega)
  | succ m ih=>
   intro hm
   rcases ih (by omega) with h1 | ⟨J,h1,h2⟩
   ·by_cases hc:T.dead m=false→(T.nd m).now+g≤1073741824∧g / (T.nd m).every<64
    ·refine .inl fun j hj=>?_
     by_cases e:j=m
     ·subst e;exact hc
     ·exact h1 j (by omega)
    ·refine .inr ⟨m,by omega,h1,?_,?_⟩
     ·cases hd:T.dead m with
      | true=>exact absurd (fun e=>by rw [hd] at e;cases e) hc
      | false=>rfl
     ·rcases Int.lt_or_le 1073741824 ((T.nd m).now+g) with a | a
      ·exact .inl a
      ·rcases Int.lt_or_le (g / (T.nd m).every) 64 with b | b
       ·exact absurd (fun _=>⟨a,b⟩) hc
       ·exact .inr b
   ·exact .inr ⟨J,by omega,h2⟩
 rcases key T.n (Nat.le_refl _) with h1 | ⟨J,h1,h2,h3,h4⟩
 ·exact .inl ⟨h.n,hg,h.tn,h1,h.len⟩
 ·have:=h.n
  exact .inr ⟨J,h1,⟨by show J≤5;omega,hg,fun j hj=>h.tn j (Nat.lt_trans hj h1),h2,h.len⟩,h3,h4⟩
end Go.Proofs.YtnaebigoknfndaaGreatDoor
namespace Go.Proofs.YtnaebigoknfndaaGreatDoor
open Go Go.RowKit
theorem ttick_large {t:Nat} {S:TSt} {f:Nat→Prop} {g:Int} {J:Nat} (w:World) (h:TRep w t S f) (h5:S.n≤5) (hJ:J<S.n) (ok:TickOK { S with n:=J } g) (htn:TN (S.nd J)) (hdJ:S.dead J=false) (hbad:1073741824<(S.nd J).now+g∨64≤g / (S.nd J).every) :
  Calls Tryz.prog 83 #[.pointer (some ⟨t,0,none⟩),.int .i64 g] w fun e w'=>e=.returned (.tuple #[.slice none 0 0,.int .i64 2])∧Below w.heap.size w w':=by
 obtain ⟨c,ga,gn,gd,ca,cn,cd,wv,bs,h⟩:=h
 obtain ⟨k0,k1,k2,k3,_⟩:=h.cells
 have tl:t<w.heap.size:=h.lt t h.ft
 obtain ⟨Aw,cw,rfl,_,_,_⟩:=own_form h.way
 have HRep:=Lib.hid h
 have HOk:=Lib.hid ok
 obtain ⟨n,hn⟩:∃ n,S.n=n:=⟨_,rfl⟩
 obtain ⟨m,hm⟩:∃ m,S.way.length=m:=⟨_,rfl⟩
 have n5:n≤5:=by omega
 have hJn:J<n:=by omega
 have m1000:=ok.way
 obtain ⟨g1,g2⟩:=ok.gb
 rw [hn] at k0 k1 k2
 rw [hm] at k3 m1000
 have HN:=Lib.hid (And.intro hn hm)
 have g3:decide (1000<g)=false:=by simp;omega
 have g4:¬ g<1:=by omega
 have HBad:=Lib.hid hbad
 have HTn:=Lib.hid htn
 have HDJ:=Lib.hid hdJ
 clear h ok hn hm hbad htn hdJ h5 hJ
 go_enter Tryz.func83,Tryz.ntmps83
 go_wp2_with fail
 go_loopw [6,32] (fun v i wr=>∃ k:Nat,k≤J∧i=.int .i64 k∧v=.int .i64 ((m+sumM S g k:Nat):Int)∧Below w.heap.size w wr) (fun _ i _=>n - (intOf i).toNat)
 case atStart=>exact ⟨0,Nat.zero_le _,rfl,by simp [sumM],Below.refl _ _⟩
 case round=>
  obtain ⟨wx,rfl⟩:∃ z:World,z=wr:=⟨_,rfl⟩
  obtain ⟨k,hk,rfl,rfl,bel⟩:=hrel
  have szx:=bel.size
  by_cases hlt:k<J
  ·have hkS:k<S.n:=by have:=HN.out.1;omega
   have sbJ:=sumM_bd HOk.out k (show k≤J by omega)
   have hT:=HRep.out.below bel
   obtain ⟨q0,q1,q2,q3,_⟩:=hT.cells
   obtain ⟨p0,p1,p2,nr,tl2,nl2,dl2,al2⟩:=hT.parts hkS
   rw [HN.out.1] at q0 q1 q2
   rw [HN.out.2] at q3
   have tn:TN (S.nd k):=HOk.out.node k hlt
   have sb:sumM S g k≤64 * k:=sbJ
   have sc:=sumM_succ S g k
   obtain ⟨ev,hev⟩:∃ x,(S.nd k).every=x:=⟨_,rfl⟩
   obtain ⟨nw,hnw⟩:∃ x,(S.nd k).now=x:=⟨_,rfl⟩
   have evb:=tn.ok.every
   have nwb:=tn.ok.now
   have hroom:S.dead k=false→(S.nd k).now+g≤1073741824∧g / (S.nd k).every<64:=HOk.out.room k hlt
   rw [hev] at p0 evb hroom
   rw [hnw] at nwb hroom
   obtain ⟨M,hM⟩:∃ x,sumM S g k=x:=⟨_,rfl⟩
   obtain ⟨M',hM'⟩:∃ x,sumM S g (k+1)=x:=⟨_,rfl⟩
   rw [hM] at sb sc
   rw [hM'] at sc
   rw [hM]
   have kw:IntKind.i64.wrap ((k:Int)+1)=(k:Int)+1:=IntWalk.i64_in _ (by omega)
   have HM':=Lib.hid hM'
   have hkn:(k:Int)<n:=by omega
   cases hd:S.dead k with
   | true=>
    rw [hd] at p2
    have e0:M'=M:=by rw [sc];unfold txN;rw [if_pos hd];rfl
    subst e0
    clear sbJ sc hM hM' hd hev hnw tn hroom nr hT
    have HBe:=Lib.hid bel
    clear bel
    go_wp2_with fail
    go_roundw
    case rel=>exact ⟨k+1,by omega,by go_num,by rw [HM'.out],HBe.out⟩
    case measure=>simp [intOf];omega
   | false=>
    rw [hd] at p2
    obtain ⟨r1,r2⟩:=hroom hd
    have hl:(txN S g k).length=((nw+g) / ev - nw / ev).toNat:=by
     unfold txN txT
     rw [if_neg (by rw [hd];simp),sentB_len]
     unfold mT
     rw [hnw,hev]
    rw [hl] at sc
    obtain ⟨u,hu⟩:∃ u,nw+g=u:=⟨_,rfl⟩
    have d0:nw / ev≤u / ev:=Int.ediv_le_ediv (by omega) (by omega)
    have d1:=seq_le (n:=nw) (E:=ev) (by omega) evb.1
    have d2:=seq_le (n:=u) (E:=ev) (by omega) evb.1
    have d3:=seq_le (n:=g) (E:=ev) (by omega) evb.1
    have t1:nw.tdiv ev=nw / ev:=Int.tdiv_eq_ediv_of_nonneg (by omega)
    have t2:u.tdiv ev=u / ev:=Int.tdiv_eq_ediv_of_nonneg (by omega)
    have t3:g.tdiv ev=g / ev:=Int.tdiv_eq_ediv_of_nonneg (by omega)
    obtain ⟨x1,hx1⟩:∃ x,nw / ev=x:=⟨_,rfl⟩
    obtain ⟨x2,hx2⟩:∃ x,u / ev=x:=⟨_,rfl⟩
    obtain ⟨x3,hx3⟩:∃ x,g / ev=x:=⟨_,rfl⟩
    rw [hu,hx1,hx2] at sc
    rw [hx1] at d0 d1 t1
    rw [hx2] at d0 d2 t2
    rw [hx3] at d3 t3 r2
    rw [hu] at r1
    have vu:IntKind.i64.wrap (nw+g)=u:=by rw [hu];exact IntWalk.i64_in _ (by omega)
    have v1:IntKind.i64.wrap x1=x1:=IntWalk.i64_in _ (by omega)
    have v2:IntKind.i64.wrap x2=x2:=IntWalk.i64_in _ (by omega)
    have v3:IntKind.i64.wrap x3=x3:=IntWalk.i64_in _ (by omega)
    obtain ⟨dd,hdd⟩:∃ x,x2 - x1=x:=⟨_,rfl⟩
    have v4:IntKind.i64.wrap (x2 - x1)=dd:=by rw [hdd];exact IntWalk.i64_in _ (by omega)
    have v5:IntKind.i64.wrap (((m+M:Nat):Int)+dd)=((m+M':Nat):Int):=by
     have:((m+M:Nat):Int)+dd=((m+M':Nat):Int):=by omega
     rw [this];exact IntWalk.i64_in _ (by omega)
    obtain ⟨y,hy⟩:∃ y:Int,((m+M:Nat):Int)=y:=⟨_,rfl⟩
    obtain ⟨y',hy'⟩:∃ y:Int,((m+M':Nat):Int)=y:=⟨_,rfl⟩
    rw [hy,hy'] at v5
    have HY':=Lib.hid hy'
    have c1:decide (1073741824<u)=false:=by simp;omega
    have c2:decide (64≤x3)=false:=by simp;omega
    have ne0:¬ ev=0:=by omega
    have ne1:(ev==0)=false:=by simp;omega
    obtain ⟨Pk,Sk,nd⟩:=nr.at'
    rw [hnw] at nd
    have HNd:=Lib.hid nd
    have ndl:=nd.lt
    have HNow:=Lib.hid (now_ok wx nd)
    have HBe:=Lib.hid bel
    rw [hy]
    clear sbJ sc hM hM' hd hev hnw tn hroom nr hT hu hx1 hx2 hx3 hdd hl hy hy' nd bel d0 r1 r2
    go_wp2_with fail
    refine HNow.out.mono ?_
    rintro e w' ⟨rfl,rfl⟩
    go_wp2_with fail
    refine wp_region_quiet_all (Ext _) (by kernel_rfl) (by kernel_rfl) (Ext.drawn _) ?_
    repeat (first | go_big_quiet_skip | go_big_quiet_step (fail) | (refine BigFrame.wpQuiet_want rfl (fun K hK=>?_);apply Exists.intro;refine ⟨fun w2 h2=>?_,?_⟩;(next=>(have g1:=Below.cells h2.below;have g2:=Below.frozens h2.below;(try simp only [World.size_alloc,World.size_setCell] at g1 g2);first | (go_simp;(go_at_call 121;refine h2.calls ((now_ok _ (HNd.out.same (h2.below.block _ ndl))).mono fun _ _ ⟨he,hw⟩=>⟨he,hw ▸ Below.refl _ _⟩))) | (simp [go_sem,↓IntWalk.iteOmega, *];done) | (simp [go_sem,↓IntWalk.iteOmega, *];rfl))));(go_simp;refine hK _ ?_;clear hK K))
    refine wpQuiet_nil ?_
    intro w2 h2
    have hb2:=h2.below
    clear h2
    have z2:=hb2.size
    have c2:=Below.cells hb2
    have f2:=Below.frozens hb2
    try simp only [World.size_alloc,World.size_setCell,World.size_drew] at z2 c2 f2
    go_wp2_with fail
    go_roundw
    case rel=>exact ⟨k+1,by omega,by go_num,by rw [HM'.out,HY'.out],HBe.out.trans (hb2.mono szx)⟩
    case measure=>simp [intOf];omega
  ·obtain rfl:k=J:=by omega
   have hkS:k<S.n:=by have:=HN.out.1;omega
   have hT:=HRep.out.below bel
   obtain ⟨q0,q1,q2,q3,qfz⟩:=hT.cells
   obtain ⟨p0,p1,p2,nr,tl2,nl2,dl2,al2⟩:=hT.parts hkS
   rw [HN.out.1] at q0 q1 q2
   rw [HN.out.2] at q3
   rw [HDJ.out] at p2
   have tn:=HTn.out
   have hb:=HBad.out
   obtain ⟨ev,hev⟩:∃ x,(S.nd k).every=x:=⟨_,rfl⟩
   obtain ⟨nw,hnw⟩:∃ x,(S.nd k).now=x:=⟨_,rfl⟩
   have evb:=tn.ok.every
   have nwb:=tn.ok.now
   rw [hev] at p0 evb hb
   rw [hnw] at nwb hb
   have hkn:(k:Int)<n:=by omega
   have t3:g.tdiv ev=g / ev:=Int.tdiv_eq_ediv_of_nonneg (by omega)
   have d3:=seq_le (n:=g) (E:=ev) (by omega) evb.1
   obtain ⟨x3,hx3⟩:∃ x,g / ev=x:=⟨_,rfl⟩
   rw [hx3] at t3 hb d3
   obtain ⟨u,hu⟩:∃ u,nw+g=u:=⟨_,rfl⟩
   have vu:IntKind.i64.wrap (nw+g)=u:=by rw [hu];exact IntWalk.i64_in _ (by omega)
   have v3:IntKind.i64.wrap x3=x3:=IntWalk.i64_in _ (by omega)
   rw [hu] at hb
   have ne0:¬ ev=0:=by omega
   have ne1:(ev==0)=false:=by simp;omega
   obtain ⟨Pk,Sk,nd⟩:=nr.at'
   rw [hnw] at nd
   have ndl:=nd.lt
   have HNow:=Lib.hid (now_ok wx nd)
   have HBe:=Lib.hid bel
   rcases (show (1073741824<u)∨(¬ 1073741824<u∧64≤x3) by omega) with hc | ⟨hc1,hc2⟩
   ·have c1:decide (1073741824<u)=true:=by simp;omega
    clear hev hnw tn nr hT hu hx3 nd bel hb
    go_wp2_with fail
    refine HNow.out.mono ?_
    rintro e w' ⟨rfl,rfl⟩
    go_wp2_with fail
    go_ret2
    exact ⟨rfl,HBe.out⟩
   ·have c1:decide (1073741824<u)=false:=by simp;omega
    have c2:decide (64≤x3)=true:=by simp;omega
    clear hev hnw tn nr hT hu hx3 nd bel hb
    go_wp2_with fail
    refine HNow.out.mono ?_
    rintro e w' ⟨rfl,rfl⟩
    go_wp2_with fail
    go_ret2
    exact ⟨rfl,HBe.out⟩
end Go.Proofs.YtnaebigoknfndaaGreatDoor
