/- What the desk's two laws lean on: part 20 (contracts and plain laws; their conditions stand in each). -/
import Derived.Test.YtnaebigoknfndaaGreatDoorE01
import Derived.Test.YtnaebigoknfndaaGreatDoorE17
import Derived.Test.YtnaebigoknfndaaGreatDoorE04
import Derived.Test.YtnaebigoknfndaaGreatDoorE14
set_option linter.unusedVariables false
set_option linter.unusedSimpArgs false
set_option maxRecDepth 100000
set_option maxHeartbeats 20000000
namespace Go.Proofs.YtnaebigoknfndaaGreatDoor
open Go Go.RowKit
noncomputable def errO (e0:Int):Out:=if e0=0 then .txt okB else .err e0
theorem errO_ok {e0:Int} (h:0≤e0∧e0≤11):OutOK (errO e0):=by
 unfold errO
 split
 ·exact okB_ok
 ·exact ⟨by omega,by omega⟩
noncomputable def mustR (e0:Int):Ending:=if e0=0 then .returned (.tuple #[]) else Fault e0
theorem must_any (e0:Int) (w:World):Calls Tryz.prog 51 #[.int .i64 e0] w fun e w'=>e=mustR e0∧Below w.heap.size w w':=by
 unfold mustR
 by_cases h:e0=0
 ·subst h;rw [if_pos rfl];exact must_ok w
 ·rw [if_neg h];exact must_no e0 w h
theorem ctick_ex (S:DSt) (ok:DOK S) (n:Int):∃ o S',OutOK o∧DOK S'∧∀ w d f p0 p1,GOK w→DRep w d S f→w.cell? ⟨p0,0,none⟩=some (.pointer (some ⟨d,0,none⟩))→p0<w.heap.size→¬ f p0→w.cell? ⟨p1,0,none⟩=some (.int .i64 n)→p1<w.heap.size→¬ f p1 →
  Calls Tryz.prog 81 #[.pointer (some ⟨p0,0,none⟩),.pointer (some ⟨p1,0,none⟩)] w (Done o d S' f w):=by
 cases hS:S.town with
 | none=>
  refine ⟨.err 4,S,⟨by decide,by decide⟩,ok,fun w d f p0 p1 g hD hc0 hl0 hf0 hc1 hl1 hf1=>?_⟩
  obtain ⟨hcd,hdl⟩:=hD.none hS
  have HTh:=Lib.hid (there_no hcd hdl)
  have HD:=Lib.hid hD
  clear hD hcd hS g
  go_enter Tryz.func81,Tryz.ntmps81
  go_wp2_with fail
  refine HTh.out.mono ?_
  rintro e w1 ⟨rfl,hb1⟩
  exact ⟨rfl,Done.below HD.out rfl hb1⟩
 | some T=>
  obtain ⟨T',N,e0,okT,okN,he0,HT⟩:=tick_all (ok.town T hS) n
  refine ⟨notesO N e0,{ S with town:=some T' },notesO_ok okN he0,⟨ok.n,ok.C,ok.ne,fun _ e=>by cases e;exact okT⟩,fun w d f p0 p1 g hD hc0 hl0 hf0 hc1 hl1 hf1=>?_⟩
  have hflt:=hD.lt
  obtain ⟨t,ft,hcd,hdl,hTA,hftd,hstep⟩:=hD.town hS
  have HTh:=Lib.hid (there_ok hcd hdl)
  have HK:=Lib.hid (fun w' (h:Below w.heap.size w w')=>(⟨(h.cell (p:=⟨p0,0,none⟩) hl0).trans hc0,(h.cell (p:=⟨d,0,none⟩) hdl).trans hcd,(h.cell (p:=⟨p1,0,none⟩) hl1).trans hc1⟩:(fun w':World=>w'.cell? ⟨p0,0,none⟩=some (.pointer (some ⟨d,0,none⟩))∧w'.cell? ⟨d,0,none⟩=some (.pointer (some ⟨t,0,none⟩))∧w'.cell? ⟨p1,0,none⟩=some (.int .i64 n)) w'))
  have HQ:=Lib.hid (fun w' (h:Kept ft w w')=>(⟨((World.cell?_of_block (a:=⟨p0,0,none⟩) (h.block p0 hl0 (fun e=>hf0 (hftd _ e).1))).trans hc0),((World.cell?_of_block (a:=⟨d,0,none⟩) (h.block d hdl (fun e=>(hftd _ e).2 rfl))).trans hcd),((World.cell?_of_block (a:=⟨p1,0,none⟩) (h.block p1 hl1 (fun e=>hf1 (hftd _ e).1))).trans hc1)⟩:(fun w':World=>w'.cell? ⟨p0,0,none⟩=some (.pointer (some ⟨d,0,none⟩))∧w'.cell? ⟨d,0,none⟩=some (.pointer (some ⟨t,0,none⟩))∧w'.cell? ⟨p1,0,none⟩=some (.int .i64 n)) w'))
  have HC:=Lib.hid (fun w' (h:Below w.heap.size w w')=>HT w' t ft (hTA.below h))
  have HG:=Lib.hid (fun w' (h:Kept ft w w')=>g.kept h (fun x hx=>(hflt x (hftd x hx).1).1))
  have HSt:=Lib.hid hstep
  have HDw:=Lib.hid hD
  have HN:=Lib.hid (fun w' A' c' (g:GOK w') (hr:NoteRow w' A' N.length N)=>notes_any A' c' N e0 w' g hr okN)
  obtain ⟨oo,hoo⟩:∃ oo,notesO N e0=oo:=⟨_,rfl⟩
  rw [hoo] at HN ⊢
  clear hD HT hTA hstep hflt hS ok okT okN g hoo he0
  go_enter Tryz.func81,Tryz.ntmps81
  go_wp2_with fail
  refine HTh.out.mono ?_
  rintro e w1 ⟨rfl,hb1⟩
  have z1:=hb1.size
  go_wp2_with fail
  have hbd:Below w.heap.size w w1.drew:=hb1.drew
  have kk:=HK.out _ hbd
  refine wp_region_M (fun w'=>w'.cell? ⟨p0,0,none⟩=some (.pointer (some ⟨d,0,none⟩))∧w'.cell? ⟨d,0,none⟩=some (.pointer (some ⟨t,0,none⟩))∧w'.cell? ⟨p1,0,none⟩=some (.int .i64 n)) (fun _=>false) 10 rfl (by kernel_rfl) ?_
  (refine wpAnyM_tk (i:=0) (v:=?_) rfl (Or.inl ⟨by rfl,?_⟩) kk ?_;(rotate_left;(intro w hSw;(try dsimp only at hSw);go_simp;try with_reducible rfl));(try simp only [Act.put,List.setIfInBounds_toArray,List.set_cons_zero,List.set_cons_succ]))
  (refine wpAnyM_tk (i:=1) (v:=?_) rfl (Or.inl ⟨by rfl,?_⟩) kk ?_;(rotate_left;(intro w hSw;(try dsimp only at hSw);go_simp;try with_reducible rfl));(try simp only [Act.put,List.setIfInBounds_toArray,List.set_cons_zero,List.set_cons_succ]))
  (refine wpAnyM_tk (i:=2) (v:=?_) rfl (Or.inl ⟨by rfl,?_⟩) kk ?_;(rotate_left;(intro w hSw;(try dsimp only at hSw);go_simp;try with_reducible rfl));(try simp only [Act.put,List.setIfInBounds_toArray,List.set_cons_zero,List.set_cons_succ]))
  (refine wpAnyM_tk (i:=3) (v:=?_) rfl (Or.inl ⟨by rfl,?_⟩) kk ?_;(rotate_left;(intro w hSw;(try dsimp only at hSw);go_simp;try with_reducible rfl));(try simp only [Act.put,List.setIfInBounds_toArray,List.set_cons_zero,List.set_cons_succ]))
  (refine wpAnyM_tk (i:=4) (v:=?_) rfl (Or.inl ⟨by rfl,?_⟩) kk ?_;(rotate_left;(intro w hSw;(try dsimp only at hSw);go_simp;try with_reducible rfl));(try simp only [Act.put,List.setIfInBounds_toArray,List.set_cons_zero,List.set_cons_succ]))
  refine wpAnyM_one (i:=5) (by kernel_rfl) rfl (fun K hK=>?_)
  go_simp
  refine (HC.out _ hbd).mono ?_
  rintro e w2 ⟨A',c',ft',rfl,hrow,hT2,hft2,hk2⟩
  have K2:Kept ft w w2:=(Kept.of_below hbd).trans hk2 (fun x _ hx=>hx)
  have k2:=HQ.out _ K2
  have g2:=HG.out _ K2
  go_simp
  refine hK _ _ (fun _=>k2) ?_
  clear hK K
  (refine wpAnyM_tk (i:=6) (v:=?_) rfl (Or.inl ⟨by rfl,?_⟩) k2 ?_;(rotate_left;(intro w hSw;(try dsimp only at hSw);go_simp;try with_reducible rfl));(try simp only [Act.put,List.setIfInBounds_toArray,List.set_cons_zero,List.set_cons_succ]))
  (refine wpAnyM_tk (i:=7) (v:=?_) rfl (Or.inl ⟨by rfl,?_⟩) k2 ?_;(rotate_left;(intro w hSw;(try dsimp only at hSw);go_simp;try with_reducible rfl));(try simp only [Act.put,List.setIfInBounds_toArray,List.set_cons_zero,List.set_cons_succ]))
  refine wpAnyM_one (i:=8) (by kernel_rfl) rfl (fun K hK=>?_)
  go_simp
  refine (HN.out _ _ _ g2 hrow).mono ?_
  rintro e w3 ⟨he,hb3⟩
  have K3:Kept ft w w3:=K2.trans (Kept.of_below (f:=ft) hb3) (fun x _ hx=>hx)
  have hw2:=hk2.size
  have hbdz:=hbd.size
  have hst:=HSt.out w3 T' ft' (hT2.below hb3) (fun x hx=>(hft2 x hx).imp (fun h=>h) (fun h=>Nat.le_trans hbdz h)) K3
  have HDn:∀ e,e=(oo).e→Done (oo) d { S with town:=some T' } f w e w3:=fun e he=>⟨he,by obtain ⟨⟨f',a,b⟩,c⟩:=hst;exact ⟨f',a,b,c⟩⟩
  have k3:=HQ.out _ K3
  cases oo with
  | err e1=>
   obtain rfl:e=Fault e1:=he
   exact ⟨rfl,HDn _ rfl⟩
  | txt tx=>
   obtain rfl:e=.returned (.string tx):=he
   go_simp
   refine hK _ _ (fun _=>k3) ?_
   clear hK K
   (refine wpAnyM_tk (i:=9) (v:=?_) rfl (Or.inl ⟨by rfl,?_⟩) k3 ?_;(rotate_left;(intro w hSw;(try dsimp only at hSw);go_simp;try with_reducible rfl));(try simp only [Act.put,List.setIfInBounds_toArray,List.set_cons_zero,List.set_cons_succ]))
   go_simp
   refine wpAnyM_done (by kernel_rfl) ?_ _
   go_wp2_with fail
   refine bodyPost_ret (v:=.string tx) (by simp [results,Tryz.results81,go_sem]) rfl ?_
   exact HDn _ rfl
theorem cbring_ex (S:DSt) (ok:DOK S) (i:Int) (k:Int) (hi:0≤i) (hk:0≤k):∃ o S',OutOK o∧DOK S'∧∀ w d f p0 p1 p2,GOK w→DRep w d S f→w.cell? ⟨p0,0,none⟩=some (.pointer (some ⟨d,0,none⟩))→p0<w.heap.size→¬ f p0→w.cell? ⟨p1,0,none⟩=some (.int .i64 i)→p1<w.heap.size→¬ f p1→w.cell? ⟨p2,0,none⟩=some (.int .i64 k)→p2<w.heap.size→¬ f p2 →
  Calls Tryz.prog 84 #[.pointer (some ⟨p0,0,none⟩),.pointer (some ⟨p1,0,none⟩),.pointer (some ⟨p2,0,none⟩)] w (Done o d S' f w):=by
 cases hS:S.town with
 | none=>
  refine ⟨.err 4,S,⟨by decide,by decide⟩,ok,fun w d f p0 p1 p2 g hD hc0 hl0 hf0 hc1 hl1 hf1 hc2 hl2 hf2=>?_⟩
  obtain ⟨hcd,hdl⟩:=hD.none hS
  have HTh:=Lib.hid (there_no hcd hdl)
  have HD:=Lib.hid hD
  clear hD hcd hS g
  go_enter Tryz.func84,Tryz.ntmps84
  go_wp2_with fail
  refine HTh.out.mono ?_
  rintro e w1 ⟨rfl,hb1⟩
  exact ⟨rfl,Done.below HD.out rfl hb1⟩
 | some T=>
  obtain ⟨T',N,e0,okT,okN,he0,HT⟩:=bring_all (ok.town T hS) i k hi hk
  refine ⟨notesO N e0,{ S with town:=some T' },notesO_ok okN he0,⟨ok.n,ok.C,ok.ne,fun _ e=>by cases e;exact okT⟩,fun w d f p0 p1 p2 g hD hc0 hl0 hf0 hc1 hl1 hf1 hc2 hl2 hf2=>?_⟩
  have hflt:=hD.lt
  obtain ⟨t,ft,hcd,hdl,hTA,hftd,hstep⟩:=hD.town hS
  have HTh:=Lib.hid (there_ok hcd hdl)
  have HK:=Lib.hid (fun w' (h:Below w.heap.size w w')=>(⟨(h.cell (p:=⟨p0,0,none⟩) hl0).trans hc0,(h.cell (p:=⟨d,0,none⟩) hdl).trans hcd,(h.cell (p:=⟨p1,0,none⟩) hl1).trans hc1,(h.cell (p:=⟨p2,0,none⟩) hl2).trans hc2⟩:(fun w':World=>w'.cell? ⟨p0,0,none⟩=some (.pointer (some ⟨d,0,none⟩))∧w'.cell? ⟨d,0,none⟩=some (.pointer (some ⟨t,0,none⟩))∧w'.cell? ⟨p1,0,none⟩=some (.int .i64 i)∧w'.cell? ⟨p2,0,none⟩=some (.int .i64 k)) w'))
  have HQ:=Lib.hid (fun w' (h:Kept ft w w')=>(⟨((World.cell?_of_block (a:=⟨p0,0,none⟩) (h.block p0 hl0 (fun e=>hf0 (hftd _ e).1))).trans hc0),((World.cell?_of_block (a:=⟨d,0,none⟩) (h.block d hdl (fun e=>(hftd _ e).2 rfl))).trans hcd),((World.cell?_of_block (a:=⟨p1,0,none⟩) (h.block p1 hl1 (fun e=>hf1 (hftd _ e).1))).trans hc1),((World.cell?_of_block (a:=⟨p2,0,none⟩) (h.block p2 hl2 (fun e=>hf2 (hftd _ e).1))).trans hc2)⟩:(fun w':World=>w'.cell? ⟨p0,0,none⟩=some (.pointer (some ⟨d,0,none⟩))∧w'.cell? ⟨d,0,none⟩=some (.pointer (some ⟨t,0,none⟩))∧w'.cell? ⟨p1,0,none⟩=some (.int .i64 i)∧w'.cell? ⟨p2,0,none⟩=some (.int .i64 k)) w'))
  have HC:=Lib.hid (fun w' (h:Below w.heap.size w w')=>HT w' t ft (hTA.below h))
  have HG:=Lib.hid (fun w' (h:Kept ft w w')=>g.kept h (fun x hx=>(hflt x (hftd x hx).1).1))
  have HSt:=Lib.hid hstep
  have HDw:=Lib.hid hD
  have HN:=Lib.hid (fun w' A' c' (g:GOK w') (hr:NoteRow w' A' N.length N)=>notes_any A' c' N e0 w' g hr okN)
  obtain ⟨oo,hoo⟩:∃ oo,notesO N e0=oo:=⟨_,rfl⟩
  rw [hoo] at HN ⊢
  clear hD HT hTA hstep hflt hS ok okT okN g hoo he0
  go_enter Tryz.func84,Tryz.ntmps84
  go_wp2_with fail
  refine HTh.out.mono ?_
  rintro e w1 ⟨rfl,hb1⟩
  have z1:=hb1.size
  go_wp2_with fail
  have hbd:Below w.heap.size w w1.drew:=hb1.drew
  have kk:=HK.out _ hbd
  refine wp_region_M (fun w'=>w'.cell? ⟨p0,0,none⟩=some (.pointer (some ⟨d,0,none⟩))∧w'.cell? ⟨d,0,none⟩=some (.pointer (some ⟨t,0,none⟩))∧w'.cell? ⟨p1,0,none⟩=some (.int .i64 i)∧w'.cell? ⟨p2,0,none⟩=some (.int .i64 k)) (fun _=>false) 11 rfl (by kernel_rfl) ?_
  (refine wpAnyM_tk (i:=0) (v:=?_) rfl (Or.inl ⟨by rfl,?_⟩) kk ?_;(rotate_left;(intro w hSw;(try dsimp only at hSw);go_simp;try with_reducible rfl));(try simp only [Act.put,List.setIfInBounds_toArray,List.set_cons_zero,List.set_cons_succ]))
  (refine wpAnyM_tk (i:=1) (v:=?_) rfl (Or.inl ⟨by rfl,?_⟩) kk ?_;(rotate_left;(intro w hSw;(try dsimp only at hSw);go_simp;try with_reducible rfl));(try simp only [Act.put,List.setIfInBounds_toArray,List.set_cons_zero,List.set_cons_succ]))
  (refine wpAnyM_tk (i:=2) (v:=?_) rfl (Or.inl ⟨by rfl,?_⟩) kk ?_;(rotate_left;(intro w hSw;(try dsimp only at hSw);go_simp;try with_reducible rfl));(try simp only [Act.put,List.setIfInBounds_toArray,List.set_cons_zero,List.set_cons_succ]))
  (refine wpAnyM_tk (i:=3) (v:=?_) rfl (Or.inl ⟨by rfl,?_⟩) kk ?_;(rotate_left;(intro w hSw;(try dsimp only at hSw);go_simp;try with_reducible rfl));(try simp only [Act.put,List.setIfInBounds_toArray,List.set_cons_zero,List.set_cons_succ]))
  (refine wpAnyM_tk (i:=4) (v:=?_) rfl (Or.inl ⟨by rfl,?_⟩) kk ?_;(rotate_left;(intro w hSw;(try dsimp only at hSw);go_simp;try with_reducible rfl));(try simp only [Act.put,List.setIfInBounds_toArray,List.set_cons_zero,List.set_cons_succ]))
  (refine wpAnyM_tk (i:=5) (v:=?_) rfl (Or.inl ⟨by rfl,?_⟩) kk ?_;(rotate_left;(intro w hSw;(try dsimp only at hSw);go_simp;try with_reducible rfl));(try simp only [Act.put,List.setIfInBounds_toArray,List.set_cons_zero,List.set_cons_succ]))
  refine wpAnyM_one (i:=6) (by kernel_rfl) rfl (fun K hK=>?_)
  go_simp
  refine (HC.out _ hbd).mono ?_
  rintro e w2 ⟨A',c',ft',rfl,hrow,hT2,hft2,hk2⟩
  have K2:Kept ft w w2:=(Kept.of_below hbd).trans hk2 (fun x _ hx=>hx)
  have k2:=HQ.out _ K2
  have g2:=HG.out _ K2
  go_simp
  refine hK _ _ (fun _=>k2) ?_
  clear hK K
  (refine wpAnyM_tk (i:=7) (v:=?_) rfl (Or.inl ⟨by rfl,?_⟩) k2 ?_;(rotate_left;(intro w hSw;(try dsimp only at hSw);go_simp;try with_reducible rfl));(try simp only [Act.put,List.setIfInBounds_toArray,List.set_cons_zero,List.set_cons_succ]))
  (refine wpAnyM_tk (i:=8) (v:=?_) rfl (Or.inl ⟨by rfl,?_⟩) k2 ?_;(rotate_left;(intro w hSw;(try dsimp only at hSw);go_simp;try with_reducible rfl));(try simp only [Act.put,List.setIfInBounds_toArray,List.set_cons_zero,List.set_cons_succ]))
  refine wpAnyM_one (i:=9) (by kernel_rfl) rfl (fun K hK=>?_)
  go_simp
  refine (HN.out _ _ _ g2 hrow).mono ?_
  rintro e w3 ⟨he,hb3⟩
  have K3:Kept ft w w3:=K2.trans (Kept.of_below (f:=ft) hb3) (fun x _ hx=>hx)
  have hw2:=hk2.size
  have hbdz:=hbd.size
  have hst:=HSt.out w3 T' ft' (hT2.below hb3) (fun x hx=>(hft2 x hx).imp (fun h=>h) (fun h=>Nat.le_trans hbdz h)) K3
  have HDn:∀ e,e=(oo).e→Done (oo) d { S with town:=some T' } f w e w3:=fun e he=>⟨he,by obtain ⟨⟨f',a,b⟩,c⟩:=hst;exact ⟨f',a,b,c⟩⟩
  have k3:=HQ.out _ K3
  cases oo with
  | err e1=>
   obtain rfl:e=Fault e1:=he
   exact ⟨rfl,HDn _ rfl⟩
  | txt tx=>
   obtain rfl:e=.returned (.string tx):=he
   go_simp
   refine hK _ _ (fun _=>k3) ?_
   clear hK K
   (refine wpAnyM_tk (i:=10) (v:=?_) rfl (Or.inl ⟨by rfl,?_⟩) k3 ?_;(rotate_left;(intro w hSw;(try dsimp only at hSw);go_simp;try with_reducible rfl));(try simp only [Act.put,List.setIfInBounds_toArray,List.set_cons_zero,List.set_cons_succ]))
   go_simp
   refine wpAnyM_done (by kernel_rfl) ?_ _
   go_wp2_with fail
   refine bodyPost_ret (v:=.string tx) (by simp [results,Tryz.results84,go_sem]) rfl ?_
   exact HDn _ rfl
theorem close_ex (S:DSt) (ok:DOK S) (i:Int) (hi:0≤i):∃ o S',OutOK o∧DOK S'∧∀ w d f p0 p1,GOK w→DRep w d S f→w.cell? ⟨p0,0,none⟩=some (.pointer (some ⟨d,0,none⟩))→p0<w.heap.size→¬ f p0→w.cell? ⟨p1,0,none⟩=some (.int .i64 i)→p1<w.heap.size→¬ f p1 →
  Calls Tryz.prog 86 #[.pointer (some ⟨p0,0,none⟩),.pointer (some ⟨p1,0,none⟩)] w (Done o d S' f w):=by
 cases hS:S.town with
 | none=>
  refine ⟨.err 4,S,⟨by decide,by decide⟩,ok,fun w d f p0 p1 g hD hc0 hl0 hf0 hc1 hl1 hf1=>?_⟩
  obtain ⟨hcd,hdl⟩:=hD.none hS
  have HTh:=Lib.hid (there_no hcd hdl)
  have HD:=Lib.hid hD
  clear hD hcd hS g
  go_enter Tryz.func86,Tryz.ntmps86
  go_wp2_with fail
  refine HTh.out.mono ?_
  rintro e w1 ⟨rfl,hb1⟩
  exact ⟨rfl,Done.below HD.out rfl hb1⟩
 | some T=>
  obtain ⟨T',e0,okT,he0,HT⟩:=lose_all (ok.town T hS) i hi
  refine ⟨errO e0,{ S with town:=some T' },errO_ok he0,⟨ok.n,ok.C,ok.ne,fun _ e=>by cases e;exact okT⟩,fun w d f p0 p1 g hD hc0 hl0 hf0 hc1 hl1 hf1=>?_⟩
  have hflt:=hD.lt
  obtain ⟨t,ft,hcd,hdl,hTA,hftd,hstep⟩:=hD.town hS
  have HTh:=Lib.hid (there_ok hcd hdl)
  have HK:=Lib.hid (fun w' (h:Below w.heap.size w w')=>(⟨(h.cell (p:=⟨p0,0,none⟩) hl0).trans hc0,(h.cell (p:=⟨d,0,none⟩) hdl).trans hcd,(h.cell (p:=⟨p1,0,none⟩) hl1).trans hc1⟩:(fun w':World=>w'.cell? ⟨p0,0,none⟩=some (.pointer (some ⟨d,0,none⟩))∧w'.cell? ⟨d,0,none⟩=some (.pointer (some ⟨t,0,none⟩))∧w'.cell? ⟨p1,0,none⟩=some (.int .i64 i)) w'))
  have HQ:=Lib.hid (fun w' (h:Kept ft w w')=>(⟨((World.cell?_of_block (a:=⟨p0,0,none⟩) (h.block p0 hl0 (fun e=>hf0 (hftd _ e).1))).trans hc0),((World.cell?_of_block (a:=⟨d,0,none⟩) (h.block d hdl (fun e=>(hftd _ e).2 rfl))).trans hcd),((World.cell?_of_block (a:=⟨p1,0,none⟩) (h.block p1 hl1 (fun e=>hf1 (hftd _ e).1))).trans hc1)⟩:(fun w':World=>w'.cell? ⟨p0,0,none⟩=some (.pointer (some ⟨d,0,none⟩))∧w'.cell? ⟨d,0,none⟩=some (.pointer (some ⟨t,0,none⟩))∧w'.cell? ⟨p1,0,none⟩=some (.int .i64 i)) w'))
  have HC:=Lib.hid (fun w' (h:Below w.heap.size w w')=>HT w' t ft (hTA.below h))
  have HG:=Lib.hid (fun w' (h:Kept ft w w')=>g.kept h (fun x hx=>(hflt x (hftd x hx).1).1))
  have HSt:=Lib.hid hstep
  have HDw:=Lib.hid hD
  have HN:=Lib.hid (fun w'=>must_any e0 w')
  clear hD HT hTA hstep hflt hS ok okT g
  go_enter Tryz.func86,Tryz.ntmps86
  go_wp2_with fail
  refine HTh.out.mono ?_
  rintro e w1 ⟨rfl,hb1⟩
  have z1:=hb1.size
  go_wp2_with fail
  have hbd:Below w.heap.size w w1.drew:=hb1.drew
  have kk:=HK.out _ hbd
  refine wp_region_M (fun w'=>w'.cell? ⟨p0,0,none⟩=some (.pointer (some ⟨d,0,none⟩))∧w'.cell? ⟨d,0,none⟩=some (.pointer (some ⟨t,0,none⟩))∧w'.cell? ⟨p1,0,none⟩=some (.int .i64 i)) (fun _=>false) 7 rfl (by kernel_rfl) ?_
  (refine wpAnyM_tk (i:=0) (v:=?_) rfl (Or.inl ⟨by rfl,?_⟩) kk ?_;(rotate_left;(intro w hSw;(try dsimp only at hSw);go_simp;try with_reducible rfl));(try simp only [Act.put,List.setIfInBounds_toArray,List.set_cons_zero,List.set_cons_succ]))
  (refine wpAnyM_tk (i:=1) (v:=?_) rfl (Or.inl ⟨by rfl,?_⟩) kk ?_;(rotate_left;(intro w hSw;(try dsimp only at hSw);go_simp;try with_reducible rfl));(try simp only [Act.put,List.setIfInBounds_toArray,List.set_cons_zero,List.set_cons_succ]))
  (refine wpAnyM_tk (i:=2) (v:=?_) rfl (Or.inl ⟨by rfl,?_⟩) kk ?_;(rotate_left;(intro w hSw;(try dsimp only at hSw);go_simp;try with_reducible rfl));(try simp only [Act.put,List.setIfInBounds_toArray,List.set_cons_zero,List.set_cons_succ]))
  (refine wpAnyM_tk (i:=3) (v:=?_) rfl (Or.inl ⟨by rfl,?_⟩) kk ?_;(rotate_left;(intro w hSw;(try dsimp only at hSw);go_simp;try with_reducible rfl));(try simp only [Act.put,List.setIfInBounds_toArray,List.set_cons_zero,List.set_cons_succ]))
  (refine wpAnyM_tk (i:=4) (v:=?_) rfl (Or.inl ⟨by rfl,?_⟩) kk ?_;(rotate_left;(intro w hSw;(try dsimp only at hSw);go_simp;try with_reducible rfl));(try simp only [Act.put,List.setIfInBounds_toArray,List.set_cons_zero,List.set_cons_succ]))
  refine wpAnyM_one (i:=5) (by kernel_rfl) rfl (fun K hK=>?_)
  go_simp
  refine (HC.out _ hbd).mono ?_
  rintro e w2 ⟨ft',rfl,hT2,hft2,hk2⟩
  have K2:Kept ft w w2:=(Kept.of_below hbd).trans hk2 (fun x _ hx=>hx)
  have k2:=HQ.out _ K2
  have g2:=HG.out _ K2
  go_simp
  refine hK _ _ (fun _=>k2) ?_
  clear hK K
  refine wpAnyM_one (i:=6) (by kernel_rfl) rfl (fun K hK=>?_)
  go_simp
  refine (HN.out _).mono ?_
  rintro e w3 ⟨he,hb3⟩
  have K3:Kept ft w w3:=K2.trans (Kept.of_below (f:=ft) hb3) (fun x _ hx=>hx)
  have hw2:=hk2.size
  have hbdz:=hbd.size
  have hst:=HSt.out w3 T' ft' (hT2.below hb3) (fun x hx=>(hft2 x hx).imp (fun h=>h) (fun h=>Nat.le_trans hbdz h)) K3
  have HDn:∀ e,e=(errO e0).e→Done (errO e0) d { S with town:=some T' } f w e w3:=fun e he=>⟨he,by obtain ⟨⟨f',a,b⟩,c⟩:=hst;exact ⟨f',a,b,c⟩⟩
  have k3:=HQ.out _ K3
  by_cases h0:e0=0
  ·subst h0
   obtain rfl:e=.returned (.tuple #[]):=by simpa [mustR] using he
   go_simp
   refine hK _ _ (fun _=>k3) ?_
   clear hK K
   refine wpAnyM_done (by kernel_rfl) ?_ _
   go_wp2_with fail
   refine bodyPost_ret (v:=.string ⟨#[111,107]⟩) (by simp [results,Tryz.results86,go_sem]) rfl ?_
   exact HDn _ rfl
  ·obtain rfl:e=Fault e0:=by simpa [mustR,h0] using he
   exact ⟨rfl,HDn _ (by simp [errO,h0,Out.e,Fault])⟩
theorem cstop_ex (S:DSt) (ok:DOK S) (i:Int) (hi:0≤i):∃ o S',OutOK o∧DOK S'∧∀ w d f p0 p1,GOK w→DRep w d S f→w.cell? ⟨p0,0,none⟩=some (.pointer (some ⟨d,0,none⟩))→p0<w.heap.size→¬ f p0→w.cell? ⟨p1,0,none⟩=some (.int .i64 i)→p1<w.heap.size→¬ f p1 →
  Calls Tryz.prog 88 #[.pointer (some ⟨p0,0,none⟩),.pointer (some ⟨p1,0,none⟩)] w (Done o d S' f w):=by
 cases hS:S.town with
 | none=>
  refine ⟨.err 4,S,⟨by decide,by decide⟩,ok,fun w d f p0 p1 g hD hc0 hl0 hf0 hc1 hl1 hf1=>?_⟩
  obtain ⟨hcd,hdl⟩:=hD.none hS
  have HTh:=Lib.hid (there_no hcd hdl)
  have HD:=Lib.hid hD
  clear hD hcd hS g
  go_enter Tryz.func88,Tryz.ntmps88
  go_wp2_with fail
  refine HTh.out.mono ?_
  rintro e w1 ⟨rfl,hb1⟩
  exact ⟨rfl,Done.below HD.out rfl hb1⟩
 | some T=>
  obtain ⟨T',e0,okT,he0,HT⟩:=stop_all (ok.town T hS) i hi
  refine ⟨errO e0,{ S with town:=some T' },errO_ok he0,⟨ok.n,ok.C,ok.ne,fun _ e=>by cases e;exact okT⟩,fun w d f p0 p1 g hD hc0 hl0 hf0 hc1 hl1 hf1=>?_⟩
  have hflt:=hD.lt
  obtain ⟨t,ft,hcd,hdl,hTA,hftd,hstep⟩:=hD.town hS
  have HTh:=Lib.hid (there_ok hcd hdl)
  have HK:=Lib.hid (fun w' (h:Below w.heap.size w w')=>(⟨(h.cell (p:=⟨p0,0,none⟩) hl0).trans hc0,(h.cell (p:=⟨d,0,none⟩) hdl).trans hcd,(h.cell (p:=⟨p1,0,none⟩) hl1).trans hc1⟩:(fun w':World=>w'.cell? ⟨p0,0,none⟩=some (.pointer (some ⟨d,0,none⟩))∧w'.cell? ⟨d,0,none⟩=some (.pointer (some ⟨t,0,none⟩))∧w'.cell? ⟨p1,0,none⟩=some (.int .i64 i)) w'))
  have HQ:=Lib.hid (fun w' (h:Kept ft w w')=>(⟨((World.cell?_of_block (a:=⟨p0,0,none⟩) (h.block p0 hl0 (fun e=>hf0 (hftd _ e).1))).trans hc0),((World.cell?_of_block (a:=⟨d,0,none⟩) (h.block d hdl (fun e=>(hftd _ e).2 rfl))).trans hcd),((World.cell?_of_block (a:=⟨p1,0,none⟩) (h.block p1 hl1 (fun e=>hf1 (hftd _ e).1))).trans hc1)⟩:(fun w':World=>w'.cell? ⟨p0,0,none⟩=some (.pointer (some ⟨d,0,none⟩))∧w'.cell? ⟨d,0,none⟩=some (.pointer (some ⟨t,0,none⟩))∧w'.cell? ⟨p1,0,none⟩=some (.int .i64 i)) w'))
  have HC:=Lib.hid (fun w' (h:Below w.heap.size w w')=>HT w' t ft (hTA.below h))
  have HG:=Lib.hid (fun w' (h:Kept ft w w')=>g.kept h (fun x hx=>(hflt x (hftd x hx).1).1))
  have HSt:=Lib.hid hstep
  have HDw:=Lib.hid hD
  have HN:=Lib.hid (fun w'=>must_any e0 w')
  clear hD HT hTA hstep hflt hS ok okT g
  go_enter Tryz.func88,Tryz.ntmps88
  go_wp2_with fail
  refine HTh.out.mono ?_
  rintro e w1 ⟨rfl,hb1⟩
  have z1:=hb1.size
  go_wp2_with fail
  have hbd:Below w.heap.size w w1.drew:=hb1.drew
  have kk:=HK.out _ hbd
  refine wp_region_M (fun w'=>w'.cell? ⟨p0,0,none⟩=some (.pointer (some ⟨d,0,none⟩))∧w'.cell? ⟨d,0,none⟩=some (.pointer (some ⟨t,0,none⟩))∧w'.cell? ⟨p1,0,none⟩=some (.int .i64 i)) (fun _=>false) 7 rfl (by kernel_rfl) ?_
  (refine wpAnyM_tk (i:=0) (v:=?_) rfl (Or.inl ⟨by rfl,?_⟩) kk ?_;(rotate_left;(intro w hSw;(try dsimp only at hSw);go_simp;try with_reducible rfl));(try simp only [Act.put,List.setIfInBounds_toArray,List.set_cons_zero,List.set_cons_succ]))
  (refine wpAnyM_tk (i:=1) (v:=?_) rfl (Or.inl ⟨by rfl,?_⟩) kk ?_;(rotate_left;(intro w hSw;(try dsimp only at hSw);go_simp;try with_reducible rfl));(try simp only [Act.put,List.setIfInBounds_toArray,List.set_cons_zero,List.set_cons_succ]))
  (refine wpAnyM_tk (i:=2) (v:=?_) rfl (Or.inl ⟨by rfl,?_⟩) kk ?_;(rotate_left;(intro w hSw;(try dsimp only at hSw);go_simp;try with_reducible rfl));(try simp only [Act.put,List.setIfInBounds_toArray,List.set_cons_zero,List.set_cons_succ]))
  (refine wpAnyM_tk (i:=3) (v:=?_) rfl (Or.inl ⟨by rfl,?_⟩) kk ?_;(rotate_left;(intro w hSw;(try dsimp only at hSw);go_simp;try with_reducible rfl));(try simp only [Act.put,List.setIfInBounds_toArray,List.set_cons_zero,List.set_cons_succ]))
  (refine wpAnyM_tk (i:=4) (v:=?_) rfl (Or.inl ⟨by rfl,?_⟩) kk ?_;(rotate_left;(intro w hSw;(try dsimp only at hSw);go_simp;try with_reducible rfl));(try simp only [Act.put,List.setIfInBounds_toArray,List.set_cons_zero,List.set_cons_succ]))
  refine wpAnyM_one (i:=5) (by kernel_rfl) rfl (fun K hK=>?_)
  go_simp
  refine (HC.out _ hbd).mono ?_
  rintro e w2 ⟨ft',rfl,hT2,hft2,hk2⟩
  have K2:Kept ft w w2:=(Kept.of_below hbd).trans hk2 (fun x _ hx=>hx)
  have k2:=HQ.out _ K2
  have g2:=HG.out _ K2
  go_simp
  refine hK _ _ (fun _=>k2) ?_
  clear hK K
  refine wpAnyM_one (i:=6) (by kernel_rfl) rfl (fun K hK=>?_)
  go_simp
  refine (HN.out _).mono ?_
  rintro e w3 ⟨he,hb3⟩
  have K3:Kept ft w w3:=K2.trans (Kept.of_below (f:=ft) hb3) (fun x _ hx=>hx)
  have hw2:=hk2.size
  have hbdz:=hbd.size
  have hst:=HSt.out w3 T' ft' (hT2.below hb3) (fun x hx=>(hft2 x hx).imp (fun h=>h) (fun h=>Nat.le_trans hbdz h)) K3
  have HDn:∀ e,e=(errO e0).e→Done (errO e0) d { S with town:=some T' } f w e w3:=fun e he=>⟨he,by obtain ⟨⟨f',a,b⟩,c⟩:=hst;exact ⟨f',a,b,c⟩⟩
  have k3:=HQ.out _ K3
  by_cases h0:e0=0
  ·subst h0
   obtain rfl:e=.returned (.tuple #[]):=by simpa [mustR] using he
   go_simp
   refine hK _ _ (fun _=>k3) ?_
   clear hK K
   refine wpAnyM_done (by kernel_rfl) ?_ _
   go_wp2_with fail
   refine bodyPost_ret (v:=.string ⟨#[111,107]⟩) (by simp [results,Tryz.results88,go_sem]) rfl ?_
   exact HDn _ rfl
  ·obtain rfl:e=Fault e0:=by simpa [mustR,h0] using he
   exact ⟨rfl,HDn _ (by simp [errO,h0,Out.e,Fault])⟩
theorem cask_ex (S:DSt) (ok:DOK S) (i:Int) (id:ByteArray) (hi:0≤i):∃ o S',OutOK o∧DOK S'∧∀ w d f p0 p1 p2,GOK w→DRep w d S f→w.cell? ⟨p0,0,none⟩=some (.pointer (some ⟨d,0,none⟩))→p0<w.heap.size→¬ f p0→w.cell? ⟨p1,0,none⟩=some (.int .i64 i)→p1<w.heap.size→¬ f p1→w.cell? ⟨p2,0,none⟩=some (.string id)→p2<w.heap.size→¬ f p2 →
  Calls Tryz.prog 90 #[.pointer (some ⟨p0,0,none⟩),.pointer (some ⟨p1,0,none⟩),.pointer (some ⟨p2,0,none⟩)] w (Done o d S' f w):=by
 cases hS:S.town with
 | none=>
  refine ⟨.err 4,S,⟨by decide,by decide⟩,ok,fun w d f p0 p1 p2 g hD hc0 hl0 hf0 hc1 hl1 hf1 hc2 hl2 hf2=>?_⟩
  obtain ⟨hcd,hdl⟩:=hD.none hS
  have HTh:=Lib.hid (there_no hcd hdl)
  have HD:=Lib.hid hD
  clear hD hcd hS g
  go_enter Tryz.func90,Tryz.ntmps90
  go_wp2_with fail
  refine HTh.out.mono ?_
  rintro e w1 ⟨rfl,hb1⟩
  exact ⟨rfl,Done.below HD.out rfl hb1⟩
 | some T=>
  obtain ⟨x,e0,hx,he0,HT⟩:=level_all (ok.town T hS) i hi id
  refine ⟨oneO x e0,S,oneO_ok he0 hx,ok,fun w d f p0 p1 p2 g hD hc0 hl0 hf0 hc1 hl1 hf1 hc2 hl2 hf2=>?_⟩
  have hflt:=hD.lt
  obtain ⟨t,ft,hcd,hdl,hTA,hftd,hstep⟩:=hD.town hS
  have HTh:=Lib.hid (there_ok hcd hdl)
  have HK:=Lib.hid (fun w' (h:Below w.heap.size w w')=>(⟨(h.cell (p:=⟨p0,0,none⟩) hl0).trans hc0,(h.cell (p:=⟨d,0,none⟩) hdl).trans hcd,(h.cell (p:=⟨p1,0,none⟩) hl1).trans hc1,(h.cell (p:=⟨p2,0,none⟩) hl2).trans hc2⟩:(fun w':World=>w'.cell? ⟨p0,0,none⟩=some (.pointer (some ⟨d,0,none⟩))∧w'.cell? ⟨d,0,none⟩=some (.pointer (some ⟨t,0,none⟩))∧w'.cell? ⟨p1,0,none⟩=some (.int .i64 i)∧w'.cell? ⟨p2,0,none⟩=some (.string id)) w'))
  have HQ:=Lib.hid (fun w' (h:Kept ft w w')=>(⟨((World.cell?_of_block (a:=⟨p0,0,none⟩) (h.block p0 hl0 (fun e=>hf0 (hftd _ e).1))).trans hc0),((World.cell?_of_block (a:=⟨d,0,none⟩) (h.block d hdl (fun e=>(hftd _ e).2 rfl))).trans hcd),((World.cell?_of_block (a:=⟨p1,0,none⟩) (h.block p1 hl1 (fun e=>hf1 (hftd _ e).1))).trans hc1),((World.cell?_of_block (a:=⟨p2,0,none⟩) (h.block p2 hl2 (fun e=>hf2 (hftd _ e).1))).trans hc2)⟩:(fun w':World=>w'.cell? ⟨p0,0,none⟩=some (.pointer (some ⟨d,0,none⟩))∧w'.cell? ⟨d,0,none⟩=some (.pointer (some ⟨t,0,none⟩))∧w'.cell? ⟨p1,0,none⟩=some (.int .i64 i)∧w'.cell? ⟨p2,0,none⟩=some (.string id)) w'))
  have HC:=Lib.hid (fun w' (h:Below w.heap.size w w')=>HT w' t ft (hTA.below h))
  have HG:=Lib.hid (fun w' (h:Kept ft w w')=>g.kept h (fun x hx=>(hflt x (hftd x hx).1).1))
  have HSt:=Lib.hid hstep
  have HDw:=Lib.hid hD
  have HN:=Lib.hid (fun w' (g:GOK w')=>one_any x e0 w' g hx)
  obtain ⟨oo,hoo⟩:∃ oo,oneO x e0=oo:=⟨_,rfl⟩
  rw [hoo] at HN ⊢
  clear hD HT hTA hstep hflt hS ok g hoo hx he0
  go_enter Tryz.func90,Tryz.ntmps90
  go_wp2_with fail
  refine HTh.out.mono ?_
  rintro e w1 ⟨rfl,hb1⟩
  have z1:=hb1.size
  go_wp2_with fail
  have hbd:Below w.heap.size w w1.drew:=hb1.drew
  have kk:=HK.out _ hbd
  refine wp_region_M (fun w'=>w'.cell? ⟨p0,0,none⟩=some (.pointer (some ⟨d,0,none⟩))∧w'.cell? ⟨d,0,none⟩=some (.pointer (some ⟨t,0,none⟩))∧w'.cell? ⟨p1,0,none⟩=some (.int .i64 i)∧w'.cell? ⟨p2,0,none⟩=some (.string id)) (fun _=>false) 11 rfl (by kernel_rfl) ?_
  (refine wpAnyM_tk (i:=0) (v:=?_) rfl (Or.inl ⟨by rfl,?_⟩) kk ?_;(rotate_left;(intro w hSw;(try dsimp only at hSw);go_simp;try with_reducible rfl));(try simp only [Act.put,List.setIfInBounds_toArray,List.set_cons_zero,List.set_cons_succ]))
  (refine wpAnyM_tk (i:=1) (v:=?_) rfl (Or.inl ⟨by rfl,?_⟩) kk ?_;(rotate_left;(intro w hSw;(try dsimp only at hSw);go_simp;try with_reducible rfl));(try simp only [Act.put,List.setIfInBounds_toArray,List.set_cons_zero,List.set_cons_succ]))
  (refine wpAnyM_tk (i:=2) (v:=?_) rfl (Or.inl ⟨by rfl,?_⟩) kk ?_;(rotate_left;(intro w hSw;(try dsimp only at hSw);go_simp;try with_reducible rfl));(try simp only [Act.put,List.setIfInBounds_toArray,List.set_cons_zero,List.set_cons_succ]))
  (refine wpAnyM_tk (i:=3) (v:=?_) rfl (Or.inl ⟨by rfl,?_⟩) kk ?_;(rotate_left;(intro w hSw;(try dsimp only at hSw);go_simp;try with_reducible rfl));(try simp only [Act.put,List.setIfInBounds_toArray,List.set_cons_zero,List.set_cons_succ]))
  (refine wpAnyM_tk (i:=4) (v:=?_) rfl (Or.inl ⟨by rfl,?_⟩) kk ?_;(rotate_left;(intro w hSw;(try dsimp only at hSw);go_simp;try with_reducible rfl));(try simp only [Act.put,List.setIfInBounds_toArray,List.set_cons_zero,List.set_cons_succ]))
  (refine wpAnyM_tk (i:=5) (v:=?_) rfl (Or.inl ⟨by rfl,?_⟩) kk ?_;(rotate_left;(intro w hSw;(try dsimp only at hSw);go_simp;try with_reducible rfl));(try simp only [Act.put,List.setIfInBounds_toArray,List.set_cons_zero,List.set_cons_succ]))
  refine wpAnyM_one (i:=6) (by kernel_rfl) rfl (fun K hK=>?_)
  go_simp
  refine (HC.out _ hbd).mono ?_
  rintro e w2 ⟨rfl,hb2⟩
  have hbw2:Below w.heap.size w w2:=hbd.trans (hb2.mono hbd.size)
  have K2:Kept ft w w2:=Kept.of_below hbw2
  have k2:=HQ.out _ K2
  have g2:=HG.out _ K2
  go_simp
  refine hK _ _ (fun _=>k2) ?_
  clear hK K
  (refine wpAnyM_tk (i:=7) (v:=?_) rfl (Or.inl ⟨by rfl,?_⟩) k2 ?_;(rotate_left;(intro w hSw;(try dsimp only at hSw);go_simp;try with_reducible rfl));(try simp only [Act.put,List.setIfInBounds_toArray,List.set_cons_zero,List.set_cons_succ]))
  (refine wpAnyM_tk (i:=8) (v:=?_) rfl (Or.inl ⟨by rfl,?_⟩) k2 ?_;(rotate_left;(intro w hSw;(try dsimp only at hSw);go_simp;try with_reducible rfl));(try simp only [Act.put,List.setIfInBounds_toArray,List.set_cons_zero,List.set_cons_succ]))
  refine wpAnyM_one (i:=9) (by kernel_rfl) rfl (fun K hK=>?_)
  go_simp
  refine (HN.out _ g2).mono ?_
  rintro e w3 ⟨he,hb3⟩
  have HDn:∀ e,e=oo.e→Done oo d S f w e w3:=fun e he=>Done.below HDw.out he (hbw2.trans (hb3.mono hbw2.size))
  have k3:=HK.out _ (hbw2.trans (hb3.mono hbw2.size))
  cases oo with
  | err e1=>
   obtain rfl:e=Fault e1:=he
   exact ⟨rfl,HDn _ rfl⟩
  | txt tx=>
   obtain rfl:e=.returned (.string tx):=he
   go_simp
   refine hK _ _ (fun _=>k3) ?_
   clear hK K
   (refine wpAnyM_tk (i:=10) (v:=?_) rfl (Or.inl ⟨by rfl,?_⟩) k3 ?_;(rotate_left;(intro w hSw;(try dsimp only at hSw);go_simp;try with_reducible rfl));(try simp only [Act.put,List.setIfInBounds_toArray,List.set_cons_zero,List.set_cons_succ]))
   go_simp
   refine wpAnyM_done (by kernel_rfl) ?_ _
   go_wp2_with fail
   refine bodyPost_ret (v:=.string tx) (by simp [results,Tryz.results90,go_sem]) rfl ?_
   exact HDn _ rfl
theorem cjoin_ex (S:DSt) (ok:DOK S) (i:Int) (id:ByteArray) (th:Int) (hi:0≤i):∃ o S',OutOK o∧DOK S'∧∀ w d f p0 p1 p2 p3,GOK w→DRep w d S f→w.cell? ⟨p0,0,none⟩=some (.pointer (some ⟨d,0,none⟩))→p0<w.heap.size→¬ f p0→w.cell? ⟨p1,0,none⟩=some (.int .i64 i)→p1<w.heap.size→¬ f p1→w.cell? ⟨p2,0,none⟩=some (.string id)→p2<w.heap.size→¬ f p2→w.cell? ⟨p3,0,none⟩=some (.int .i64 th)→p3<w.heap.size→¬ f p3 →
  Calls Tryz.prog 92 #[.pointer (some ⟨p0,0,none⟩),.pointer (some ⟨p1,0,none⟩),.pointer (some ⟨p2,0,none⟩),.pointer (some ⟨p3,0,none⟩)] w (Done o d S' f w):=by
 cases hS:S.town with
 | none=>
  refine ⟨.err 4,S,⟨by decide,by decide⟩,ok,fun w d f p0 p1 p2 p3 g hD hc0 hl0 hf0 hc1 hl1 hf1 hc2 hl2 hf2 hc3 hl3 hf3=>?_⟩
  obtain ⟨hcd,hdl⟩:=hD.none hS
  have HTh:=Lib.hid (there_no hcd hdl)
  have HD:=Lib.hid hD
  clear hD hcd hS g
  go_enter Tryz.func92,Tryz.ntmps92
  go_wp2_with fail
  refine HTh.out.mono ?_
  rintro e w1 ⟨rfl,hb1⟩
  exact ⟨rfl,Done.below HD.out rfl hb1⟩
 | some T=>
  obtain ⟨T',N,e0,okT,okN,he0,HT⟩:=join_all (ok.town T hS) i hi id th
  refine ⟨notesO N e0,{ S with town:=some T' },notesO_ok okN he0,⟨ok.n,ok.C,ok.ne,fun _ e=>by cases e;exact okT⟩,fun w d f p0 p1 p2 p3 g hD hc0 hl0 hf0 hc1 hl1 hf1 hc2 hl2 hf2 hc3 hl3 hf3=>?_⟩
  have hflt:=hD.lt
  obtain ⟨t,ft,hcd,hdl,hTA,hftd,hstep⟩:=hD.town hS
  have HTh:=Lib.hid (there_ok hcd hdl)
  have HK:=Lib.hid (fun w' (h:Below w.heap.size w w')=>(⟨(h.cell (p:=⟨p0,0,none⟩) hl0).trans hc0,(h.cell (p:=⟨d,0,none⟩) hdl).trans hcd,(h.cell (p:=⟨p1,0,none⟩) hl1).trans hc1,(h.cell (p:=⟨p2,0,none⟩) hl2).trans hc2,(h.cell (p:=⟨p3,0,none⟩) hl3).trans hc3⟩:(fun w':World=>w'.cell? ⟨p0,0,none⟩=some (.pointer (some ⟨d,0,none⟩))∧w'.cell? ⟨d,0,none⟩=some (.pointer (some ⟨t,0,none⟩))∧w'.cell? ⟨p1,0,none⟩=some (.int .i64 i)∧w'.cell? ⟨p2,0,none⟩=some (.string id)∧w'.cell? ⟨p3,0,none⟩=some (.int .i64 th)) w'))
  have HQ:=Lib.hid (fun w' (h:Kept ft w w')=>(⟨((World.cell?_of_block (a:=⟨p0,0,none⟩) (h.block p0 hl0 (fun e=>hf0 (hftd _ e).1))).trans hc0),((World.cell?_of_block (a:=⟨d,0,none⟩) (h.block d hdl (fun e=>(hftd _ e).2 rfl))).trans hcd),((World.cell?_of_block (a:=⟨p1,0,none⟩) (h.block p1 hl1 (fun e=>hf1 (hftd _ e).1))).trans hc1),((World.cell?_of_block (a:=⟨p2,0,none⟩) (h.block p2 hl2 (fun e=>hf2 (hftd _ e).1))).trans hc2),((World.cell?_of_block (a:=⟨p3,0,none⟩) (h.block p3 hl3 (fun e=>hf3 (hftd _ e).1))).trans hc3)⟩:(fun w':World=>w'.cell? ⟨p0,0,none⟩=some (.pointer (some ⟨d,0,none⟩))∧w'.cell? ⟨d,0,none⟩=some (.pointer (some ⟨t,0,none⟩))∧w'.cell? ⟨p1,0,none⟩=some (.int .i64 i)∧w'.cell? ⟨p2,0,none⟩=some (.string id)∧w'.cell? ⟨p3,0,none⟩=some (.int .i64 th)) w'))
  have HC:=Lib.hid (fun w' (h:Below w.heap.size w w')=>HT w' t ft (hTA.below h))
  have HG:=Lib.hid (fun w' (h:Kept ft w w')=>g.kept h (fun x hx=>(hflt x (hftd x hx).1).1))
  have HSt:=Lib.hid hstep
  have HDw:=Lib.hid hD
  have HN:=Lib.hid (fun w' A' c' (g:GOK w') (hr:NoteRow w' A' N.length N)=>notes_any A' c' N e0 w' g hr okN)
  obtain ⟨oo,hoo⟩:∃ oo,notesO N e0=oo:=⟨_,rfl⟩
  rw [hoo] at HN ⊢
  clear hD HT hTA hstep hflt hS ok okT okN g hoo he0
  go_enter Tryz.func92,Tryz.ntmps92
  go_wp2_with fail
  refine HTh.out.mono ?_
  rintro e w1 ⟨rfl,hb1⟩
  have z1:=hb1.size
  go_wp2_with fail
  have hbd:Below w.heap.size w w1.drew:=hb1.drew
  have kk:=HK.out _ hbd
  refine wp_region_M (fun w'=>w'.cell? ⟨p0,0,none⟩=some (.pointer (some ⟨d,0,none⟩))∧w'.cell? ⟨d,0,none⟩=some (.pointer (some ⟨t,0,none⟩))∧w'.cell? ⟨p1,0,none⟩=some (.int .i64 i)∧w'.cell? ⟨p2,0,none⟩=some (.string id)∧w'.cell? ⟨p3,0,none⟩=some (.int .i64 th)) (fun _=>false) 12 rfl (by kernel_rfl) ?_
  (refine wpAnyM_tk (i:=0) (v:=?_) rfl (Or.inl ⟨by rfl,?_⟩) kk ?_;(rotate_left;(intro w hSw;(try dsimp only at hSw);go_simp;try with_reducible rfl));(try simp only [Act.put,List.setIfInBounds_toArray,List.set_cons_zero,List.set_cons_succ]))
  (refine wpAnyM_tk (i:=1) (v:=?_) rfl (Or.inl ⟨by rfl,?_⟩) kk ?_;(rotate_left;(intro w hSw;(try dsimp only at hSw);go_simp;try with_reducible rfl));(try simp only [Act.put,List.setIfInBounds_toArray,List.set_cons_zero,List.set_cons_succ]))
  (refine wpAnyM_tk (i:=2) (v:=?_) rfl (Or.inl ⟨by rfl,?_⟩) kk ?_;(rotate_left;(intro w hSw;(try dsimp only at hSw);go_simp;try with_reducible rfl));(try simp only [Act.put,List.setIfInBounds_toArray,List.set_cons_zero,List.set_cons_succ]))
  (refine wpAnyM_tk (i:=3) (v:=?_) rfl (Or.inl ⟨by rfl,?_⟩) kk ?_;(rotate_left;(intro w hSw;(try dsimp only at hSw);go_simp;try with_reducible rfl));(try simp only [Act.put,List.setIfInBounds_toArray,List.set_cons_zero,List.set_cons_succ]))
  (refine wpAnyM_tk (i:=4) (v:=?_) rfl (Or.inl ⟨by rfl,?_⟩) kk ?_;(rotate_left;(intro w hSw;(try dsimp only at hSw);go_simp;try with_reducible rfl));(try simp only [Act.put,List.setIfInBounds_toArray,List.set_cons_zero,List.set_cons_succ]))
  (refine wpAnyM_tk (i:=5) (v:=?_) rfl (Or.inl ⟨by rfl,?_⟩) kk ?_;(rotate_left;(intro w hSw;(try dsimp only at hSw);go_simp;try with_reducible rfl));(try simp only [Act.put,List.setIfInBounds_toArray,List.set_cons_zero,List.set_cons_succ]))
  (refine wpAnyM_tk (i:=6) (v:=?_) rfl (Or.inl ⟨by rfl,?_⟩) kk ?_;(rotate_left;(intro w hSw;(try dsimp only at hSw);go_simp;try with_reducible rfl));(try simp only [Act.put,List.setIfInBounds_toArray,List.set_cons_zero,List.set_cons_succ]))
  refine wpAnyM_one (i:=7) (by kernel_rfl) rfl (fun K hK=>?_)
  go_simp
  refine (HC.out _ hbd).mono ?_
  rintro e w2 ⟨A',c',ft',rfl,hrow,hT2,hft2,hk2⟩
  have K2:Kept ft w w2:=(Kept.of_below hbd).trans hk2 (fun x _ hx=>hx)
  have k2:=HQ.out _ K2
  have g2:=HG.out _ K2
  go_simp
  refine hK _ _ (fun _=>k2) ?_
  clear hK K
  (refine wpAnyM_tk (i:=8) (v:=?_) rfl (Or.inl ⟨by rfl,?_⟩) k2 ?_;(rotate_left;(intro w hSw;(try dsimp only at hSw);go_simp;try with_reducible rfl));(try simp only [Act.put,List.setIfInBounds_toArray,List.set_cons_zero,List.set_cons_succ]))
  (refine wpAnyM_tk (i:=9) (v:=?_) rfl (Or.inl ⟨by rfl,?_⟩) k2 ?_;(rotate_left;(intro w hSw;(try dsimp only at hSw);go_simp;try with_reducible rfl));(try simp only [Act.put,List.setIfInBounds_toArray,List.set_cons_zero,List.set_cons_succ]))
  refine wpAnyM_one (i:=10) (by kernel_rfl) rfl (fun K hK=>?_)
  go_simp
  refine (HN.out _ _ _ g2 hrow).mono ?_
  rintro e w3 ⟨he,hb3⟩
  have K3:Kept ft w w3:=K2.trans (Kept.of_below (f:=ft) hb3) (fun x _ hx=>hx)
  have hw2:=hk2.size
  have hbdz:=hbd.size
  have hst:=HSt.out w3 T' ft' (hT2.below hb3) (fun x hx=>(hft2 x hx).imp (fun h=>h) (fun h=>Nat.le_trans hbdz h)) K3
  have HDn:∀ e,e=(oo).e→Done (oo) d { S with town:=some T' } f w e w3:=fun e he=>⟨he,by obtain ⟨⟨f',a,b⟩,c⟩:=hst;exact ⟨f',a,b,c⟩⟩
  have k3:=HQ.out _ K3
  cases oo with
  | err e1=>
   obtain rfl:e=Fault e1:=he
   exact ⟨rfl,HDn _ rfl⟩
  | txt tx=>
   obtain rfl:e=.returned (.string tx):=he
   go_simp
   refine hK _ _ (fun _=>k3) ?_
   clear hK K
   (refine wpAnyM_tk (i:=11) (v:=?_) rfl (Or.inl ⟨by rfl,?_⟩) k3 ?_;(rotate_left;(intro w hSw;(try dsimp only at hSw);go_simp;try with_reducible rfl));(try simp only [Act.put,List.setIfInBounds_toArray,List.set_cons_zero,List.set_cons_succ]))
   go_simp
   refine wpAnyM_done (by kernel_rfl) ?_ _
   go_wp2_with fail
   refine bodyPost_ret (v:=.string tx) (by simp [results,Tryz.results92,go_sem]) rfl ?_
   exact HDn _ rfl
end Go.Proofs.YtnaebigoknfndaaGreatDoor
namespace Go.Proofs.YtnaebigoknfndaaGreatDoor
open Go Go.RowKit
def NumsOK (every cap least:Int):Prop:=(1≤every∧every≤16777216)∧(1≤cap∧cap≤64)∧(1≤least∧least≤16777216)
open Classical in
noncomputable def cfgE (c:Cfg):Int:=if ¬ IdOK (byts c.id) then 3 else if NumsOK c.every c.cap c.least then 0 else 1
theorem ncheck_form (id:ByteArray) (every cap least:Int) (w:World) (hs:id.size≤1048576) (hid:¬ IdOK (byts id)) :
  Calls Tryz.prog 147 #[.agg #[.string id,.int .i64 0,.int .i64 every,.int .i64 cap,.int .i64 least]] w fun e w'=>e=.returned (.int .i64 3)∧Below w.heap.size w w':=by
 have HI:=Lib.hid (fun w'=>id_bad id w' (by omega) hid)
 have qa:=alloc_cells
 have qf:=alloc_frozens
 clear hid hs
 go_enter Tryz.func147,Tryz.ntmps147
 go_wp2_with fail
 refine (HI.out _).mono ?_
 rintro e w' ⟨rfl,rfl⟩
 go_wp2_with fail
 go_ret
 exact ⟨rfl,(Below.refl _ _).alloc (Nat.le_refl _) _⟩
theorem ncheck_nums (id:ByteArray) (every cap least:Int) (w:World) (hid:IdOK (byts id)) (hn:¬ NumsOK every cap least) :
  Calls Tryz.prog 147 #[.agg #[.string id,.int .i64 0,.int .i64 every,.int .i64 cap,.int .i64 least]] w fun e w'=>e=.returned (.int .i64 1)∧Below w.heap.size w w':=by
 have HI:=Lib.hid (fun w'=>id_ok id w' hid)
 have qa:=alloc_cells
 have qf:=alloc_frozens
 have hcase:every<1∨(¬ every<1∧16777216<every)∨((1≤every∧every≤16777216)∧(cap<1∨(¬ cap<1∧64<cap)∨((¬ cap<1∧¬ 64<cap)∧(least<1∨(¬ least<1∧16777216<least))))):=by
  unfold NumsOK at hn;omega
 clear hid hn
 rcases hcase with h1 | ⟨h1,h2⟩ | ⟨⟨h1,h2⟩,h3 | ⟨h3,h4⟩ | ⟨⟨h3,h4⟩,h5 | ⟨h5,h6⟩⟩⟩
 ·go_enter Tryz.func147,Tryz.ntmps147
  go_wp2_with fail
  refine (HI.out _).mono ?_
  rintro e w' ⟨rfl,rfl⟩
  go_wp2_with fail
  go_ret
  exact ⟨rfl,(Below.refl _ _).alloc (Nat.le_refl _) _⟩
 ·go_enter Tryz.func147,Tryz.ntmps147
  go_wp2_with fail
  refine (HI.out _).mono ?_
  rintro e w' ⟨rfl,rfl⟩
  go_wp2_with fail
  refine (val_no every (by omega) _).mono ?_
  rintro e w' ⟨rfl,rfl⟩
  go_wp2_with fail
  go_ret
  exact ⟨rfl,(Below.refl _ _).alloc (Nat.le_refl _) _⟩
 ·have g1:¬ every<1:=by omega
  go_enter Tryz.func147,Tryz.ntmps147
  go_wp2_with fail
  refine (HI.out _).mono ?_
  rintro e w' ⟨rfl,rfl⟩
  go_wp2_with fail
  refine (val_ok every (by omega) (by omega) _).mono ?_
  rintro e w' ⟨rfl,rfl⟩
  go_wp2_with fail
  go_ret
  exact ⟨rfl,(Below.refl _ _).alloc (Nat.le_refl _) _⟩
 ·have g1:¬ every<1:=by omega
  go_enter Tryz.func147,Tryz.ntmps147
  go_wp2_with fail
  refine (HI.out _).mono ?_
  rintro e w' ⟨rfl,rfl⟩
  go_wp2_with fail
  refine (val_ok every (by omega) (by omega) _).mono ?_
  rintro e w' ⟨rfl,rfl⟩
  go_wp2_with fail
  go_ret
  exact ⟨rfl,(Below.refl _ _).alloc (Nat.le_refl _) _⟩
 ·have g1:¬ every<1:=by omega
  go_enter Tryz.func147,Tryz.ntmps147
  go_wp2_with fail
  refine (HI.out _).mono ?_
  rintro e w' ⟨rfl,rfl⟩
  go_wp2_with fail
  refine (val_ok every (by omega) (by omega) _).mono ?_
  rintro e w' ⟨rfl,rfl⟩
  go_wp2_with fail
  go_ret
  exact ⟨rfl,(Below.refl _ _).alloc (Nat.le_refl _) _⟩
 ·have g1:¬ every<1:=by omega
  go_enter Tryz.func147,Tryz.ntmps147
  go_wp2_with fail
  refine (HI.out _).mono ?_
  rintro e w' ⟨rfl,rfl⟩
  go_wp2_with fail
  refine (val_ok every (by omega) (by omega) _).mono ?_
  rintro e w' ⟨rfl,rfl⟩
  go_wp2_with fail
  refine (val_no least (by omega) _).mono ?_
  rintro e w' ⟨rfl,rfl⟩
  go_wp2_with fail
  go_ret
  exact ⟨rfl,(Below.refl _ _).alloc (Nat.le_refl _) _⟩
theorem new_no (c:Cfg) (w:World) (hs:c.id.size≤1048576) (h:cfgE c≠0) :
  Calls Tryz.prog 118 #[.agg #[.string c.id,.int .i64 0,.int .i64 c.every,.int .i64 c.cap,.int .i64 c.least]] w fun e w'=>e=.returned (.tuple #[.pointer none,.int .i64 (cfgE c)])∧Below w.heap.size w w':=by
 have hc0:∀ w',Calls Tryz.prog 147 #[.agg #[.string c.id,.int .i64 0,.int .i64 c.every,.int .i64 c.cap,.int .i64 c.least]] w' fun e w''=>e=.returned (.int .i64 (cfgE c))∧Below w'.heap.size w' w'':=by
  intro w'
  unfold cfgE
  by_cases h1:IdOK (byts c.id)
  ·rw [if_neg (by simp [h1])]
   by_cases h2:NumsOK c.every c.cap c.least
   ·exact absurd (show cfgE c=0 by unfold cfgE;rw [if_neg (by simp [h1]),if_pos h2]) h
   ·rw [if_neg h2];exact ncheck_nums _ _ _ _ w' h1 h2
  ·rw [if_pos h1];exact ncheck_form _ _ _ _ w' hs h1
 have HC:=Lib.hid hc0
 clear hc0
 obtain ⟨e0,he⟩:∃ e,cfgE c=e:=⟨_,rfl⟩
 rw [he] at HC h ⊢
 have hd:(e0 != 0)=true:=by simpa using h
 obtain ⟨q0,h0⟩:∃ x,c.id=x:=⟨_,rfl⟩
 obtain ⟨q2,h2⟩:∃ x,c.every=x:=⟨_,rfl⟩
 obtain ⟨q3,h3⟩:∃ x,c.cap=x:=⟨_,rfl⟩
 obtain ⟨q4,h4⟩:∃ x,c.least=x:=⟨_,rfl⟩
 rw [h0,h2,h3,h4] at HC ⊢
 have qa:=alloc_cells
 have qf:=alloc_frozens
 clear he h h0 h2 h3 h4 hs
 go_enter Tryz.func118,Tryz.ntmps118
 go_wp2_with fail
 refine (HC.out _).mono ?_
 rintro e w1 ⟨rfl,hb1⟩
 have z1:=hb1.size
 have c1:=Below.cells hb1
 have f1:=Below.frozens hb1
 try simp only [World.size_alloc,World.size_setCell,World.size_drew] at z1 c1 f1
 go_wp2_with fail
 go_wp2_with fail
 refine bodyPost_ret (v:=.tuple #[.pointer none,.int .i64 e0]) (by simp [results,Tryz.results118,go_sem]) rfl ?_
 exact ⟨rfl,(by repeat (first | (with_reducible exact Below.refl _ _) | (with_reducible refine bAl ?_ _) | (with_reducible refine bSc ?_ _) | (with_reducible refine Below.drew ?_) | (with_reducible refine bTm ?_ hb1)))⟩
end Go.Proofs.YtnaebigoknfndaaGreatDoor
