/- What the desk's two laws lean on: part 24 (contracts and plain laws; their conditions stand in each). -/
import Derived.Test.YtnaebigoknfndaaGreatDoorE01
import Derived.Test.YtnaebigoknfndaaGreatDoorE23
import Derived.Test.YtnaebigoknfndaaGreatDoorE04
import Derived.Test.YtnaebigoknfndaaGreatDoorE19
import Derived.Lib.SplitLaws
import Derived.Test.YtnaebigoknfndaaGreatDoorE20
import Derived.Test.YtnaebigoknfndaaGreatDoorE22
import Derived.Test.YtnaebigoknfndaaGreatDoorE17
set_option linter.unusedVariables false
set_option linter.unusedSimpArgs false
set_option maxRecDepth 100000
set_option maxHeartbeats 20000000
namespace Go.Proofs.YtnaebigoknfndaaGreatDoor
open Go Go.RowKit
theorem window_at (A:Option Addr) (n c:Nat) (w:World) (hm:n≤9223372036854775807) :
  Calls Tryz.prog 72 #[.slice A n c] w fun e w'=>e=.returned (.agg #[.int .i64 (max 1 (n:Int)),.slice A n c])∧Below w.heap.size w w':=by
 have qa:=alloc_cells
 have qf:=alloc_frozens
 go_enter Tryz.func72,Tryz.ntmps72
 go_wp2_with fail
 refine bodyPost_ret (v:=.agg #[.int .i64 (max 1 (n:Int)),.slice A n c]) (by simp [results,Tryz.results72,go_sem,↓IntWalk.iteOmega, *]) rfl ?_
 exact ⟨rfl,(by repeat (first | (with_reducible exact Below.refl _ _) | (with_reducible refine bAl ?_ _) | (with_reducible refine bSc ?_ _) | (with_reducible refine Below.drew ?_) | (refine Below.trans ?_ (by assumption))))⟩
theorem vlevel_ex (l:List Int) (a b:Int) (hm:l.length≤9223372036854775807):ValC2 70 l a b:=by
 obtain ⟨x,e0,hx,H⟩:=of_any l a b hm
 refine ⟨oneO x e0,oneO_ok hx.2 hx.1,fun w p p1 p2 A c g hr hp hlt hp1 hl1 hp2 hl2=>?_⟩
 obtain ⟨n,hn⟩:∃ n,l.length=n:=⟨_,rfl⟩
 rw [hn] at H hr hp hm
 have HS:=Lib.hid (fun w'=>window_at A n c w' hm)
 have HC:=Lib.hid (fun w' (h:Below w.heap.size w w')=>H w' A c (hr.below h))
 obtain ⟨z,hz⟩:∃ z,max 1 (n:Int)=z:=⟨_,rfl⟩
 rw [hz] at HS HC
 have HT:=Lib.hid (fun w' (h:Below w.heap.size w w')=>one_any x e0 w' (g.below h g.low) hx.1)
 obtain ⟨o,ho⟩:∃ o,oneO x e0=o:=⟨_,rfl⟩
 rw [ho] at HT ⊢
 have hbd:Below w.heap.size w w.drew:=(Below.refl _ _).drew
 clear H hr hn hz g hx ho
 go_enter Tryz.func70,Tryz.ntmps70
 go_wp2_with fail
 have KS:∀ w',Below w.heap.size w w'→(fun w':World=>w'.cell? ⟨p,0,none⟩=some (.slice A n c)∧w'.cell? ⟨p1,0,none⟩=some (.int .i64 a)∧w'.cell? ⟨p2,0,none⟩=some (.int .i64 b)) w':=fun w' h=>⟨(h.cell (p:=⟨p,0,none⟩) hlt).trans hp,(h.cell (p:=⟨p1,0,none⟩) hl1).trans hp1,(h.cell (p:=⟨p2,0,none⟩) hl2).trans hp2⟩
 have HK:=Lib.hid KS
 have kk:=KS _ hbd
 clear KS
 refine wp_region_M (fun w'=>w'.cell? ⟨p,0,none⟩=some (.slice A n c)∧w'.cell? ⟨p1,0,none⟩=some (.int .i64 a)∧w'.cell? ⟨p2,0,none⟩=some (.int .i64 b)) (fun _=>false) 9 rfl (by kernel_rfl) ?_
 (refine wpAnyM_tk (i:=0) (v:=?_) rfl (Or.inl ⟨by rfl,?_⟩) kk ?_;(rotate_left;(intro w hSw;(try dsimp only at hSw);go_simp;try with_reducible rfl));(try simp only [Act.put,List.setIfInBounds_toArray,List.set_cons_zero,List.set_cons_succ]))
 (refine wpAnyM_tk (i:=2) (v:=?_) rfl (Or.inl ⟨by rfl,?_⟩) kk ?_;(rotate_left;(intro w hSw;(try dsimp only at hSw);go_simp;try with_reducible rfl));(try simp only [Act.put,List.setIfInBounds_toArray,List.set_cons_zero,List.set_cons_succ]))
 (refine wpAnyM_tk (i:=3) (v:=?_) rfl (Or.inl ⟨by rfl,?_⟩) kk ?_;(rotate_left;(intro w hSw;(try dsimp only at hSw);go_simp;try with_reducible rfl));(try simp only [Act.put,List.setIfInBounds_toArray,List.set_cons_zero,List.set_cons_succ]))
 refine wpAnyM_one (i:=1) (by kernel_rfl) rfl (fun K hK=>?_)
 go_simp
 refine (HS.out _).mono ?_
 rintro e w1 ⟨rfl,hb1⟩
 have hbw1:Below w.heap.size w w1:=hbd.trans (hb1.mono hbd.size)
 go_simp
 refine hK _ _ (fun _=>HK.out _ hbw1) ?_
 clear hK K
 refine wpAnyM_one (i:=4) (by kernel_rfl) rfl (fun K hK=>?_)
 go_simp
 refine (HC.out _ hbw1).mono ?_
 rintro e w2 ⟨rfl,hb2⟩
 have hbw2:Below w.heap.size w w2:=hbw1.trans (hb2.mono hbw1.size)
 have k2:=HK.out _ hbw2
 go_simp
 refine hK _ _ (fun _=>k2) ?_
 clear hK K
 (refine wpAnyM_tk (i:=5) (v:=?_) rfl (Or.inl ⟨by rfl,?_⟩) k2 ?_;(rotate_left;(intro w hSw;(try dsimp only at hSw);go_simp;try with_reducible rfl));(try simp only [Act.put,List.setIfInBounds_toArray,List.set_cons_zero,List.set_cons_succ]))
 (refine wpAnyM_tk (i:=6) (v:=?_) rfl (Or.inl ⟨by rfl,?_⟩) k2 ?_;(rotate_left;(intro w hSw;(try dsimp only at hSw);go_simp;try with_reducible rfl));(try simp only [Act.put,List.setIfInBounds_toArray,List.set_cons_zero,List.set_cons_succ]))
 refine wpAnyM_one (i:=7) (by kernel_rfl) rfl (fun K hK=>?_)
 go_simp
 refine (HT.out _ hbw2).mono ?_
 rintro e w3 ⟨he,hb3⟩
 have hb4:Below w.heap.size w w3:=hbw2.trans (hb3.mono hbw2.size)
 have k3:=HK.out _ hb4
 cases o with
 | err e1=>
  obtain rfl:e=Fault e1:=he
  exact ⟨rfl,rfl,hb4⟩
 | txt t=>
  obtain rfl:e=.returned (.string t):=he
  go_simp
  refine hK _ _ (fun _=>k3) ?_
  clear hK K
  (refine wpAnyM_tk (i:=8) (v:=?_) rfl (Or.inl ⟨by rfl,?_⟩) k3 ?_;(rotate_left;(intro w hSw;(try dsimp only at hSw);go_simp;try with_reducible rfl));(try simp only [Act.put,List.setIfInBounds_toArray,List.set_cons_zero,List.set_cons_succ]))
  refine wpAnyM_done (by kernel_rfl) ?_ _
  go_wp2_with fail
  refine bodyPost_ret (v:=.string t) (by simp [results,Tryz.results70,go_sem]) rfl ?_
  exact ⟨rfl,hb4⟩
theorem vwhen_ex (l:List Int) (a b:Int) (hm:l.length≤9223372036854775807):ValC2 73 l a b:=by
 obtain ⟨x,e0,hx,H⟩:=when_any l a b hm
 refine ⟨oneO x e0,oneO_ok hx.2 hx.1,fun w p p1 p2 A c g hr hp hlt hp1 hl1 hp2 hl2=>?_⟩
 obtain ⟨n,hn⟩:∃ n,l.length=n:=⟨_,rfl⟩
 rw [hn] at H hr hp hm
 have HS:=Lib.hid (fun w'=>window_at A n c w' hm)
 have HC:=Lib.hid (fun w' (h:Below w.heap.size w w')=>H w' A c (hr.below h))
 obtain ⟨z,hz⟩:∃ z,max 1 (n:Int)=z:=⟨_,rfl⟩
 rw [hz] at HS HC
 have HT:=Lib.hid (fun w' (h:Below w.heap.size w w')=>one_any x e0 w' (g.below h g.low) hx.1)
 obtain ⟨o,ho⟩:∃ o,oneO x e0=o:=⟨_,rfl⟩
 rw [ho] at HT ⊢
 have hbd:Below w.heap.size w w.drew:=(Below.refl _ _).drew
 clear H hr hn hz g hx ho
 go_enter Tryz.func73,Tryz.ntmps73
 go_wp2_with fail
 have KS:∀ w',Below w.heap.size w w'→(fun w':World=>w'.cell? ⟨p,0,none⟩=some (.slice A n c)∧w'.cell? ⟨p1,0,none⟩=some (.int .i64 a)∧w'.cell? ⟨p2,0,none⟩=some (.int .i64 b)) w':=fun w' h=>⟨(h.cell (p:=⟨p,0,none⟩) hlt).trans hp,(h.cell (p:=⟨p1,0,none⟩) hl1).trans hp1,(h.cell (p:=⟨p2,0,none⟩) hl2).trans hp2⟩
 have HK:=Lib.hid KS
 have kk:=KS _ hbd
 clear KS
 refine wp_region_M (fun w'=>w'.cell? ⟨p,0,none⟩=some (.slice A n c)∧w'.cell? ⟨p1,0,none⟩=some (.int .i64 a)∧w'.cell? ⟨p2,0,none⟩=some (.int .i64 b)) (fun _=>false) 9 rfl (by kernel_rfl) ?_
 (refine wpAnyM_tk (i:=0) (v:=?_) rfl (Or.inl ⟨by rfl,?_⟩) kk ?_;(rotate_left;(intro w hSw;(try dsimp only at hSw);go_simp;try with_reducible rfl));(try simp only [Act.put,List.setIfInBounds_toArray,List.set_cons_zero,List.set_cons_succ]))
 (refine wpAnyM_tk (i:=2) (v:=?_) rfl (Or.inl ⟨by rfl,?_⟩) kk ?_;(rotate_left;(intro w hSw;(try dsimp only at hSw);go_simp;try with_reducible rfl));(try simp only [Act.put,List.setIfInBounds_toArray,List.set_cons_zero,List.set_cons_succ]))
 (refine wpAnyM_tk (i:=3) (v:=?_) rfl (Or.inl ⟨by rfl,?_⟩) kk ?_;(rotate_left;(intro w hSw;(try dsimp only at hSw);go_simp;try with_reducible rfl));(try simp only [Act.put,List.setIfInBounds_toArray,List.set_cons_zero,List.set_cons_succ]))
 refine wpAnyM_one (i:=1) (by kernel_rfl) rfl (fun K hK=>?_)
 go_simp
 refine (HS.out _).mono ?_
 rintro e w1 ⟨rfl,hb1⟩
 have hbw1:Below w.heap.size w w1:=hbd.trans (hb1.mono hbd.size)
 go_simp
 refine hK _ _ (fun _=>HK.out _ hbw1) ?_
 clear hK K
 refine wpAnyM_one (i:=4) (by kernel_rfl) rfl (fun K hK=>?_)
 go_simp
 refine (HC.out _ hbw1).mono ?_
 rintro e w2 ⟨rfl,hb2⟩
 have hbw2:Below w.heap.size w w2:=hbw1.trans (hb2.mono hbw1.size)
 have k2:=HK.out _ hbw2
 go_simp
 refine hK _ _ (fun _=>k2) ?_
 clear hK K
 (refine wpAnyM_tk (i:=5) (v:=?_) rfl (Or.inl ⟨by rfl,?_⟩) k2 ?_;(rotate_left;(intro w hSw;(try dsimp only at hSw);go_simp;try with_reducible rfl));(try simp only [Act.put,List.setIfInBounds_toArray,List.set_cons_zero,List.set_cons_succ]))
 (refine wpAnyM_tk (i:=6) (v:=?_) rfl (Or.inl ⟨by rfl,?_⟩) k2 ?_;(rotate_left;(intro w hSw;(try dsimp only at hSw);go_simp;try with_reducible rfl));(try simp only [Act.put,List.setIfInBounds_toArray,List.set_cons_zero,List.set_cons_succ]))
 refine wpAnyM_one (i:=7) (by kernel_rfl) rfl (fun K hK=>?_)
 go_simp
 refine (HT.out _ hbw2).mono ?_
 rintro e w3 ⟨he,hb3⟩
 have hb4:Below w.heap.size w w3:=hbw2.trans (hb3.mono hbw2.size)
 have k3:=HK.out _ hb4
 cases o with
 | err e1=>
  obtain rfl:e=Fault e1:=he
  exact ⟨rfl,rfl,hb4⟩
 | txt t=>
  obtain rfl:e=.returned (.string t):=he
  go_simp
  refine hK _ _ (fun _=>k3) ?_
  clear hK K
  (refine wpAnyM_tk (i:=8) (v:=?_) rfl (Or.inl ⟨by rfl,?_⟩) k3 ?_;(rotate_left;(intro w hSw;(try dsimp only at hSw);go_simp;try with_reducible rfl));(try simp only [Act.put,List.setIfInBounds_toArray,List.set_cons_zero,List.set_cons_succ]))
  refine wpAnyM_done (by kernel_rfl) ?_ _
  go_wp2_with fail
  refine bodyPost_ret (v:=.string t) (by simp [results,Tryz.results73,go_sem]) rfl ?_
  exact ⟨rfl,hb4⟩
end Go.Proofs.YtnaebigoknfndaaGreatDoor
namespace Go.Proofs.YtnaebigoknfndaaGreatDoor
open Go Go.RowKit
theorem fade_any (l:List Int) (s:Int) (hm:l.length≤9223372036854775807):∃ x e0,NumE x e0∧∀ w A c,InRow w A l.length c l →
  Calls Tryz.prog 69 #[.slice A l.length c,.int .i64 s] w fun e w'=>e=.returned (.tuple #[.int .i64 x,.int .i64 e0])∧Below w.heap.size w w':=by
 obtain ⟨n,hn⟩:∃ n,l.length=n:=⟨_,rfl⟩
 by_cases h0:LE l=0
 ·by_cases hg:s<0∨(¬ s<0∧8<s)
  ·refine ⟨0,1,by unfold NumE;omega,fun w A c hr=>?_⟩
   rw [hn] at hr hm ⊢
   have HL:=Lib.hid (list_le A n c l w hr.1 hm)
   rw [h0] at HL
   clear h0 hr hn
   rcases hg with g1 | ⟨g1,g2⟩
   all_goals
    go_enter Tryz.func69,Tryz.ntmps69
    go_wp2_with fail
    refine (HL.out).mono ?_
    rintro e w1 ⟨rfl,hb1⟩
    have z1:=hb1.size
    have c1:=Below.cells hb1
    have f1:=Below.frozens hb1
    try simp only [World.size_alloc,World.size_setCell,World.size_drew] at z1 c1 f1
    go_wp2_with fail
    go_wp2_with fail
    refine bodyPost_ret (v:=.tuple #[.int .i64 0,.int .i64 1]) (by simp [results,Tryz.results69,go_sem]) rfl ?_
    exact ⟨rfl,hb1⟩
  ·obtain ⟨h64,hb⟩:=LE_ok h0
   by_cases hz:n=0
   ·refine ⟨0,4,by unfold NumE;omega,fun w A c hr=>?_⟩
    rw [hn] at hr hm ⊢
    have HL:=Lib.hid (list_le A n c l w hr.1 hm)
    rw [h0] at HL
    subst hz
    have n1:¬ s<0:=by omega
    have n2:¬ 8<s:=by omega
    clear h0 hr hn hg hb h64
    go_enter Tryz.func69,Tryz.ntmps69
    go_wp2_with fail
    refine (HL.out).mono ?_
    rintro e w1 ⟨rfl,hb1⟩
    have z1:=hb1.size
    have c1:=Below.cells hb1
    have f1:=Below.frozens hb1
    try simp only [World.size_alloc,World.size_setCell,World.size_drew] at z1 c1 f1
    go_wp2_with fail
    go_wp2_with fail
    refine bodyPost_ret (v:=.tuple #[.int .i64 0,.int .i64 4]) (by simp [results,Tryz.results69,go_sem]) rfl ?_
    exact ⟨rfl,hb1⟩
   ·have bx:=frun_bd (s:=s) (by omega) (by omega) (l:=l) (by omega) hb
    refine ⟨frun s l,0,by unfold NumE;omega,fun w A c hr=>?_⟩
    rw [hn] at hr ⊢
    refine (run_ok A n c l s _ w hr.1 (by omega) hr.2.1 hr.2.2.1 (by omega) hb (by omega) (by omega) rfl).mono ?_
    rintro e w' ⟨rfl,rfl⟩
    exact ⟨rfl,Below.refl _ _⟩
 ·have hbd:=LE_bd l
  refine ⟨0,LE l,by unfold NumE;omega,fun w A c hr=>?_⟩
  rw [hn] at hr hm ⊢
  have HL:=Lib.hid (list_le A n c l w hr.1 hm)
  obtain ⟨e0,he⟩:∃ e,LE l=e:=⟨_,rfl⟩
  rw [he] at HL h0 ⊢
  have hd:(e0 != 0)=true:=by simpa using h0
  clear h0 hr hn he hbd
  go_enter Tryz.func69,Tryz.ntmps69
  go_wp2_with fail
  refine (HL.out).mono ?_
  rintro e w1 ⟨rfl,hb1⟩
  have z1:=hb1.size
  have c1:=Below.cells hb1
  have f1:=Below.frozens hb1
  try simp only [World.size_alloc,World.size_setCell,World.size_drew] at z1 c1 f1
  go_wp2_with fail
  go_wp2_with fail
  refine bodyPost_ret (v:=.tuple #[.int .i64 0,.int .i64 e0]) (by simp [results,Tryz.results69,go_sem]) rfl ?_
  exact ⟨rfl,hb1⟩
theorem cantelli_any (n s q t:Int) (h:SumsOK n s q):∃ x e0,NumE x e0∧∀ w,
  Calls Tryz.prog 67 #[.agg #[.int .i64 n,.int .i64 s,.int .i64 q],.int .i64 t] w fun e w'=>e=.returned (.tuple #[.int .i64 x,.int .i64 e0])∧Below w.heap.size w w':=by
 obtain ⟨b1,b2,b3,b4,b5,b6,b7,b8,b9,b10⟩:=h.bd
 by_cases hg:t<0∨(¬ t<0∧1073741824<t)
 ·refine ⟨0,1,by unfold NumE;omega,fun w=>?_⟩
  have HC:=Lib.hid (fun w'=>scheck_ok n s q h w')
  have qa:=alloc_cells
  have qf:=alloc_frozens
  clear h b1 b2 b3 b4 b5 b6 b7 b8 b9 b10
  rcases hg with g1 | ⟨g1,g2⟩
  all_goals
   go_enter Tryz.func67,Tryz.ntmps67
   go_wp2_with fail
   refine (HC.out _).mono ?_
   rintro e w1 ⟨rfl,hb1⟩
   have z1:=hb1.size
   have c1:=Below.cells hb1
   have f1:=Below.frozens hb1
   try simp only [World.size_alloc,World.size_setCell,World.size_drew] at z1 c1 f1
   go_wp2_with fail
   go_wp2_with fail
   refine bodyPost_ret (v:=.tuple #[.int .i64 0,.int .i64 1]) (by simp [results,Tryz.results67,go_sem]) rfl ?_
   exact ⟨rfl,(by repeat (first | (with_reducible exact Below.refl _ _) | (with_reducible refine bAl ?_ _) | (with_reducible refine bSc ?_ _) | (with_reducible refine Below.drew ?_) | (with_reducible refine bTm ?_ hb1)))⟩
 ·have bx:=cant_bd (n:=n) (s:=s) (X:=n * q - s * s) (t:=t) b1 (by omega)
  exact ⟨_,0,by unfold NumE;omega,fun w=>cant_ok n s q _ t _ h rfl ⟨by omega,by omega⟩ rfl w⟩
theorem vrank_ex (l:List Int) (a b:Int) (hm:l.length≤9223372036854775807):ValC2 64 l a b:=by
 obtain ⟨x,e0,hx,H⟩:=rank_any l a b hm
 refine ⟨oneO x e0,oneO_ok hx.2 hx.1,fun w p p1 p2 A c g hr hp hlt hp1 hl1 hp2 hl2=>?_⟩
 obtain ⟨n,hn⟩:∃ n,l.length=n:=⟨_,rfl⟩
 rw [hn] at H hr hp
 have HC:=Lib.hid (H w A c hr)
 have HT:=Lib.hid (fun w' (h:Below w.heap.size w w')=>one_any x e0 w' (g.below h g.low) hx.1)
 obtain ⟨o,ho⟩:∃ o,oneO x e0=o:=⟨_,rfl⟩
 rw [ho] at HT ⊢
 clear H hr hn g hx ho
 go_enter Tryz.func64,Tryz.ntmps64
 go_wp2_with fail
 refine (HC.out).mono ?_
 rintro e w1 ⟨rfl,hb1⟩
 have z1:=hb1.size
 have c1:=Below.cells hb1
 have f1:=Below.frozens hb1
 try simp only [World.size_alloc,World.size_setCell,World.size_drew] at z1 c1 f1
 go_wp2_with fail
 go_wp2_with fail
 refine (HT.out _ hb1).mono ?_
 rintro e w3 ⟨he,hb3⟩
 have hb4:Below w.heap.size w w3:=hb1.trans (hb3.mono hb1.size)
 cases o with
 | err e1=>
  obtain rfl:e=Fault e1:=he
  exact ⟨rfl,rfl,hb4⟩
 | txt t=>
  obtain rfl:e=.returned (.string t):=he
  go_wp2_with fail
  refine bodyPost_ret (v:=.string t) (by simp [results,Tryz.results64,go_sem]) rfl ?_
  exact ⟨rfl,hb4⟩
theorem vfade_ex (l:List Int) (a:Int) (hm:l.length≤9223372036854775807):ValC1 68 l a:=by
 obtain ⟨x,e0,hx,H⟩:=fade_any l a hm
 refine ⟨oneO x e0,oneO_ok hx.2 hx.1,fun w p p1 A c g hr hp hlt hp1 hl1=>?_⟩
 obtain ⟨n,hn⟩:∃ n,l.length=n:=⟨_,rfl⟩
 rw [hn] at H hr hp
 have HC:=Lib.hid (H w A c hr)
 have HT:=Lib.hid (fun w' (h:Below w.heap.size w w')=>one_any x e0 w' (g.below h g.low) hx.1)
 obtain ⟨o,ho⟩:∃ o,oneO x e0=o:=⟨_,rfl⟩
 rw [ho] at HT ⊢
 clear H hr hn g hx ho
 go_enter Tryz.func68,Tryz.ntmps68
 go_wp2_with fail
 refine (HC.out).mono ?_
 rintro e w1 ⟨rfl,hb1⟩
 have z1:=hb1.size
 have c1:=Below.cells hb1
 have f1:=Below.frozens hb1
 try simp only [World.size_alloc,World.size_setCell,World.size_drew] at z1 c1 f1
 go_wp2_with fail
 go_wp2_with fail
 refine (HT.out _ hb1).mono ?_
 rintro e w3 ⟨he,hb3⟩
 have hb4:Below w.heap.size w w3:=hb1.trans (hb3.mono hb1.size)
 cases o with
 | err e1=>
  obtain rfl:e=Fault e1:=he
  exact ⟨rfl,rfl,hb4⟩
 | txt t=>
  obtain rfl:e=.returned (.string t):=he
  go_wp2_with fail
  refine bodyPost_ret (v:=.string t) (by simp [results,Tryz.results68,go_sem]) rfl ?_
  exact ⟨rfl,hb4⟩
end Go.Proofs.YtnaebigoknfndaaGreatDoor
namespace Go.Proofs.YtnaebigoknfndaaGreatDoor
open Go Go.RowKit
theorem vcantelli_ex (l:List Int) (a:Int) (hm:l.length≤9223372036854775807):ValC1 66 l a:=by
 by_cases h0:LE l=0
 ·obtain ⟨h64,hb⟩:=LE_ok h0
  obtain ⟨x,e0,hx,H⟩:=cantelli_any _ _ _ a (sumsOK_of hb h64)
  refine ⟨oneO x e0,oneO_ok hx.2 hx.1,fun w p p1 A c g hr hp hlt hp1 hl1=>?_⟩
  obtain ⟨n,hn⟩:∃ n,l.length=n:=⟨_,rfl⟩
  rw [hn] at H hr hp hm
  have HS:=Lib.hid (fun w' (h:Below w.heap.size w w')=>dsums_ok A n c l w' (hr.1.below h) h0)
  obtain ⟨s,hs⟩:∃ s,sumI l=s:=⟨_,rfl⟩
  obtain ⟨q,hq⟩:∃ s,sqI l=s:=⟨_,rfl⟩
  rw [hs,hq] at HS H
  have HC:=Lib.hid H
  have HT:=Lib.hid (fun w' (h:Below w.heap.size w w')=>one_any x e0 w' (g.below h g.low) hx.1)
  obtain ⟨o,ho⟩:∃ o,oneO x e0=o:=⟨_,rfl⟩
  rw [ho] at HT ⊢
  have hbd:Below w.heap.size w w.drew:=(Below.refl _ _).drew
  clear h0 H hr hn hs hq g hx ho hb
  go_enter Tryz.func66,Tryz.ntmps66
  go_wp2_with fail
  have kk:(fun w':World=>w'.cell? ⟨p,0,none⟩=some (.slice A n c)∧w'.cell? ⟨p1,0,none⟩=some (.int .i64 a)) w.drew:=⟨hp,hp1⟩
  refine wp_region_M (fun w'=>w'.cell? ⟨p,0,none⟩=some (.slice A n c)∧w'.cell? ⟨p1,0,none⟩=some (.int .i64 a)) (fun _=>false) 8 rfl (by kernel_rfl) ?_
  (refine wpAnyM_tk (i:=0) (v:=?_) rfl (Or.inl ⟨by rfl,?_⟩) kk ?_;(rotate_left;(intro w hSw;(try dsimp only at hSw);go_simp;try with_reducible rfl));(try simp only [Act.put,List.setIfInBounds_toArray,List.set_cons_zero,List.set_cons_succ]))
  (refine wpAnyM_tk (i:=2) (v:=?_) rfl (Or.inl ⟨by rfl,?_⟩) kk ?_;(rotate_left;(intro w hSw;(try dsimp only at hSw);go_simp;try with_reducible rfl));(try simp only [Act.put,List.setIfInBounds_toArray,List.set_cons_zero,List.set_cons_succ]))
  refine wpAnyM_one (i:=1) (by kernel_rfl) rfl (fun K hK=>?_)
  go_simp
  refine (HS.out _ hbd).mono ?_
  rintro e w1 ⟨rfl,hb1⟩
  have hbw1:Below w.heap.size w w1:=hbd.trans (hb1.mono hbd.size)
  have k1:(fun w':World=>w'.cell? ⟨p,0,none⟩=some (.slice A n c)∧w'.cell? ⟨p1,0,none⟩=some (.int .i64 a)) w1:=⟨(hbw1.cell (p:=⟨p,0,none⟩) hlt).trans hp,(hbw1.cell (p:=⟨p1,0,none⟩) hl1).trans hp1⟩
  go_simp
  refine hK _ _ (fun _=>k1) ?_
  clear hK K
  refine wpAnyM_one (i:=3) (by kernel_rfl) rfl (fun K hK=>?_)
  go_simp
  refine (HC.out _).mono ?_
  rintro e w2 ⟨rfl,hb2⟩
  have hbw2:Below w.heap.size w w2:=hbw1.trans (hb2.mono hbw1.size)
  have k2:(fun w':World=>w'.cell? ⟨p,0,none⟩=some (.slice A n c)∧w'.cell? ⟨p1,0,none⟩=some (.int .i64 a)) w2:=⟨(hbw2.cell (p:=⟨p,0,none⟩) hlt).trans hp,(hbw2.cell (p:=⟨p1,0,none⟩) hl1).trans hp1⟩
  go_simp
  refine hK _ _ (fun _=>k2) ?_
  clear hK K
  (refine wpAnyM_tk (i:=4) (v:=?_) rfl (Or.inl ⟨by rfl,?_⟩) k2 ?_;(rotate_left;(intro w hSw;(try dsimp only at hSw);go_simp;try with_reducible rfl));(try simp only [Act.put,List.setIfInBounds_toArray,List.set_cons_zero,List.set_cons_succ]))
  (refine wpAnyM_tk (i:=5) (v:=?_) rfl (Or.inl ⟨by rfl,?_⟩) k2 ?_;(rotate_left;(intro w hSw;(try dsimp only at hSw);go_simp;try with_reducible rfl));(try simp only [Act.put,List.setIfInBounds_toArray,List.set_cons_zero,List.set_cons_succ]))
  refine wpAnyM_one (i:=6) (by kernel_rfl) rfl (fun K hK=>?_)
  go_simp
  refine (HT.out _ hbw2).mono ?_
  rintro e w3 ⟨he,hb3⟩
  have hb4:Below w.heap.size w w3:=hbw2.trans (hb3.mono hbw2.size)
  have k3:(fun w':World=>w'.cell? ⟨p,0,none⟩=some (.slice A n c)∧w'.cell? ⟨p1,0,none⟩=some (.int .i64 a)) w3:=⟨(hb4.cell (p:=⟨p,0,none⟩) hlt).trans hp,(hb4.cell (p:=⟨p1,0,none⟩) hl1).trans hp1⟩
  cases o with
  | err e1=>
   obtain rfl:e=Fault e1:=he
   exact ⟨rfl,rfl,hb4⟩
  | txt t=>
   obtain rfl:e=.returned (.string t):=he
   go_simp
   refine hK _ _ (fun _=>k3) ?_
   clear hK K
   (refine wpAnyM_tk (i:=7) (v:=?_) rfl (Or.inl ⟨by rfl,?_⟩) k3 ?_;(rotate_left;(intro w hSw;(try dsimp only at hSw);go_simp;try with_reducible rfl));(try simp only [Act.put,List.setIfInBounds_toArray,List.set_cons_zero,List.set_cons_succ]))
   refine wpAnyM_done (by kernel_rfl) ?_ _
   go_wp2_with fail
   refine bodyPost_ret (v:=.string t) (by simp [results,Tryz.results66,go_sem]) rfl ?_
   exact ⟨rfl,hb4⟩
 ·have hbd:=LE_bd l
  refine ⟨.err (LE l),⟨by omega,by omega⟩,fun w p p1 A c g hr hp hlt hp1 hl1=>?_⟩
  obtain ⟨n,hn⟩:∃ n,l.length=n:=⟨_,rfl⟩
  rw [hn] at hr hp hm
  have HS:=Lib.hid (fun w' (h:Below w.heap.size w w')=>dsums_no A n c l w' (hr.1.below h) hm h0)
  obtain ⟨e0,he⟩:∃ e,LE l=e:=⟨_,rfl⟩
  rw [he] at HS ⊢
  have hbd:Below w.heap.size w w.drew:=(Below.refl _ _).drew
  clear h0 hr hn g he
  go_enter Tryz.func66,Tryz.ntmps66
  go_wp2_with fail
  have kk:(fun w':World=>w'.cell? ⟨p,0,none⟩=some (.slice A n c)∧w'.cell? ⟨p1,0,none⟩=some (.int .i64 a)) w.drew:=⟨hp,hp1⟩
  refine wp_region_M (fun w'=>w'.cell? ⟨p,0,none⟩=some (.slice A n c)∧w'.cell? ⟨p1,0,none⟩=some (.int .i64 a)) (fun _=>false) 8 rfl (by kernel_rfl) ?_
  (refine wpAnyM_tk (i:=0) (v:=?_) rfl (Or.inl ⟨by rfl,?_⟩) kk ?_;(rotate_left;(intro w hSw;(try dsimp only at hSw);go_simp;try with_reducible rfl));(try simp only [Act.put,List.setIfInBounds_toArray,List.set_cons_zero,List.set_cons_succ]))
  (refine wpAnyM_tk (i:=2) (v:=?_) rfl (Or.inl ⟨by rfl,?_⟩) kk ?_;(rotate_left;(intro w hSw;(try dsimp only at hSw);go_simp;try with_reducible rfl));(try simp only [Act.put,List.setIfInBounds_toArray,List.set_cons_zero,List.set_cons_succ]))
  refine wpAnyM_one (i:=1) (by kernel_rfl) rfl (fun K hK=>?_)
  go_simp
  refine (HS.out _ hbd).mono ?_
  rintro e w1 ⟨rfl,hb1⟩
  exact ⟨rfl,rfl,hbd.trans (hb1.mono hbd.size)⟩
end Go.Proofs.YtnaebigoknfndaaGreatDoor
namespace Go.Proofs.YtnaebigoknfndaaGreatDoor
open Go Go.RowKit
def sepB (c:UInt8):ByteArray:=⟨#[c]⟩
def partsB (c:UInt8) (s:ByteArray):List ByteArray:=Lib.splitB (sepB c) 0 (Lib.countB s (sepB c)) s
theorem partsB_len (c:UInt8) (s:ByteArray):(partsB c s).length=Lib.countB s (sepB c)+1:=Lib.splitB_all (sepB c) (Nat.le_refl 1) 0 _ s rfl
theorem countB_size (c:UInt8) (s:ByteArray):Lib.countB s (sepB c)≤s.size:=Lib.countB_le (sepB c) (Nat.le_refl 1) _ s (Nat.le_refl _)
theorem splitB_mem_size (sep:ByteArray):∀ (k:Nat) (s x:ByteArray),x∈Lib.splitB sep 0 k s→x.size≤s.size
 | 0,s,x,h=>by rw [Lib.splitB_zero] at h;simp at h;rw [h];exact Nat.le_refl _
 | k+1,s,x,h=>by
   unfold Lib.splitB at h
   split at h
   ·simp at h;rw [h];exact Nat.le_refl _
   ·rcases List.mem_cons.1 h with rfl | h
    ·rw [ByteArray.size_extract];omega
    ·have:=splitB_mem_size sep k _ x h
     rw [ByteArray.size_extract] at this;omega
theorem partsB_size {c:UInt8} {s:ByteArray} {j:Nat} (h:j<(partsB c s).length):((partsB c s).getD j ⟨#[]⟩).size≤s.size:=by
 rw [List.getD_eq_getElem?_getD,List.getElem?_eq_getElem h]
 exact splitB_mem_size _ _ _ _ (List.getElem_mem h)
def nums:List ByteArray→List Int
 | []=>[]
 | x :: l=>match numW x with | some n=>n :: nums l | none=>[]
theorem nums_le:∀ l:List ByteArray,(nums l).length≤l.length
 | []=>Nat.le_refl _
 | x :: l=>by
   unfold nums
   split
   ·have:=nums_le l;simp;omega
   ·simp
theorem nums_get:∀ (l:List ByteArray) (k:Nat),k<(nums l).length→numW (l.getD k ⟨#[]⟩)=some ((nums l).getD k 0)
 | [],k,h=>by simp [nums] at h
 | x :: l,k,h=>by
   unfold nums at h ⊢
   split at h <;> rename_i hx
   ·cases k with
    | zero=>simpa using hx
    | succ k=>simpa using nums_get l k (by simpa using h)
   ·simp at h
theorem nums_end:∀ l:List ByteArray,(nums l).length<l.length→numW (l.getD (nums l).length ⟨#[]⟩)=none
 | [],h=>by simp [nums] at h
 | x :: l,h=>by
   unfold nums at h ⊢
   split at h <;> rename_i hx
   ·simpa using nums_end l (by simpa using h)
   ·simpa using hx
def pList (L:List ByteArray) (k:Nat):Option (List Int):=
 if k<L.length then (let ws:=partsB 44 (L.getD k ⟨#[]⟩);if (nums ws).length=ws.length then some (nums ws) else none) else none
variable {w w':World} {b n c k:Nat} {A:Option Addr} {L:List ByteArray}
theorem wlist_any (g:GOK w) (h:WSt w b A n c L k) (hk:k<n) (ws:List ByteArray) (hws:partsB 44 (L.getD k ⟨#[]⟩)=ws) (m J:Nat) (hm:ws.length=m) (hJ:(nums ws).length=J) :
  Calls Tryz.prog 55 #[.pointer (some ⟨b,0,none⟩)] w fun e w'=>((J=m∧∃ A' c' m0,e=.returned (.slice A' m c')∧w.heap.size≤m0∧w'.ownsRow m0 3 1 (.slice A' m c') m ((nums ws).map (Value.int .i64)))∨(J<m∧e=Fault 11))∧(J=m→WSt w' b A n c L (k+1))∧Got b w w':=by
 have h10:=h.2.2.2.2.1
 obtain ⟨s,hs⟩:∃ s,L.getD k ⟨#[]⟩=s:=⟨_,rfl⟩
 have hsz:s.size≤1048576:=by rw [← hs];exact h.size hk
 have HN:=Lib.hid (wnext_ok s h hk hs)
 rw [hs] at hws
 have hJm:J≤m:=by rw [← hJ,← hm];exact nums_le ws
 have hm1:Lib.countB s (sepB 44)+1=m:=by rw [← hm,← hws,partsB_len]
 have hmz:m≤1048577:=by have:=countB_size 44 s;omega
 have HG:=Lib.hid (fun j (hj:j<J)=>nums_get ws j (by omega))
 have HE:=Lib.hid (fun (hj:J<m)=>hJ ▸ nums_end ws (by omega))
 have HZ:=Lib.hid (fun j (hj:j<m)=>(hws ▸ Nat.le_trans (partsB_size (c:=44) (s:=s) (j:=j) (by rw [hws];omega)) hsz:(ws.getD j ⟨#[]⟩).size≤1048576))
 have HSp:=Lib.hid (fun w' (hg:Got b w w')=>by
  obtain ⟨mm,hmm⟩:=(g.grown hg h10).mlen
  have:=Tryz.strings_Split s (sepB 44) mm w' (by omega) hmm (Nat.le_refl 1)
  rw [hm1,show Lib.splitB (sepB 44) 0 (Lib.countB s (sepB 44)) s=ws from hws] at this
  exact this)
 have HNu:=Lib.hid (fun w' j (hj:j<m) (hg:Got b w w')=>number_any (ws.getD j ⟨#[]⟩) (HZ.out j hj) w' (g.grown hg h10))
 have HL:=Lib.hid hJ
 have HLm:=Lib.hid hm
 have hsep:sepB 44=⟨#[44]⟩:=rfl
 rw [hsep] at HSp
 clear h g hs hws hsz hJ hm hm1
 obtain ⟨i0,hi,hz0,hz1,hz2⟩:=info_parts info_int
 go_enter Tryz.func55,Tryz.ntmps55
 go_wp2_with fail
 refine HN.out.mono ?_
 rintro e w1 ⟨rfl,h1,hg1⟩
 go_wp2_with fail
 refine (HSp.out _ hg1).mono ?_
 rintro e w2 ⟨rfl,hw2⟩
 have z1:=hg1.size
 have HR:=Lib.hid (show ∀ j,j<m→w2.cell? ⟨w1.heap.size,j,none⟩=some (.string (ws.getD j ⟨#[]⟩)) from fun j hj=>by
  subst hw2
  simp only [World.cell?,World.alloc,Array.getElem?_push_size,Option.bind_some]
  rw [List.getElem?_toArray,List.getElem?_map,List.getD_eq_getElem?_getD,List.getElem?_eq_getElem (by have:=HLm.out;omega)]
  rfl)
 have hb2:Below w1.heap.size w1 w2:=by rw [hw2];exact (Below.refl _ _).alloc (Nat.le_refl _) _
 have z2:w1.heap.size<w2.heap.size:=by rw [hw2];simp
 have HG1:=Lib.hid hg1
 have HB2:=Lib.hid hb2
 have H1:=Lib.hid h1
 clear hw2 hb2 h1 hg1
 go_wp2_with fail
 go_loopw [3,10] (fun v i wr=>∃ q:Nat,q≤J∧i=.int .i64 q∧wr.ownsRow w2.heap.size 3 1 v q ((List.take q (nums ws)).map (Value.int .i64))∧Below w2.heap.size w2 wr) (fun _ i _=>m - (intOf i).toNat)
 case atStart=>exact ⟨0,Nat.zero_le _,rfl,World.ownsRow_nil _ _ _ _,Below.refl _ _⟩
 case round=>
  obtain ⟨q,hq,rfl,hown,bel⟩:=hrel
  have hsz:=bel.size
  have qw:IntKind.i64.wrap ((q:Int)+1)=(q:Int)+1:=IntWalk.i64_in _ (by omega)
  by_cases hlt:q<m
  ·have hc:=(bel.cell (p:=⟨w1.heap.size,q,none⟩) (show w1.heap.size<w2.heap.size by omega)).trans (HR.out q hlt)
   have lq:(q:Int)<m:=by omega
   have lq0:(0:Int)≤q:=by omega
   obtain ⟨s1,hs1⟩:∃ s1,ws.getD q ⟨#[]⟩=s1:=⟨_,rfl⟩
   have gq:Got b w wr:=Got.of (Got.of HG1.out HB2.out) bel
   have HN1:=Lib.hid (HNu.out wr q hlt gq)
   rw [hs1] at hc HN1
   by_cases hj:q<J
   ·obtain ⟨y,hy⟩:∃ y,(nums ws).getD q 0=y:=⟨_,rfl⟩
    have h1:=HG.out q hj
    rw [hs1,hy] at h1
    rw [h1] at HN1
    have htk:List.take (q+1) (nums ws)=List.take q (nums ws) ++ [y]:=by rw [take_snoc _ (by have:=HL.out;omega),hy]
    have HT:=Lib.hid htk
    clear h1 hs1 hy htk gq
    go_wp2_with fail
    refine HN1.out.mono ?_
    rintro e w3 ⟨rfl,hb3⟩
    have hown3:=own_below hown hb3
    have z3:=hb3.size
    have bel3:=bel.trans (hb3.mono hsz)
    clear hown bel hb3
    go_wp2_with (at_builtin;(refine wpList_append_own _ rfl _ _ 90 rfl (w2.heap.size) 3 i0 (.int .i64 0) 1 8 Tryz.underlying90 hi hz0 hz1 hz2 rfl (by decide) _ _ _ rfl (World.ownsRow.alloc hown3 _) ⟨w3.heap.size,0,none⟩ 1 1 [.int .i64 (y)] rfl rfl (app1_cells _ _ _) (app1_one _ _) (by unfold maxLen;omega) (by omega) (by simp;omega) ?_))
    intro vq wq ownq grq _
    have own2:wq.ownsRow w2.heap.size 3 1 vq (q+1) ((List.take (q+1) (nums ws)).map (Value.int .i64)):=by rw [HT.out];simpa [List.map_append,List.map_take] using ownq
    have grw:=(bel3.alloc (by omega) _).grown grq (by simp;omega) (fun g hg=>(hown3.lt g hg).1)
    have HO:=Lib.hid own2
    clear ownq grq hown3 own2
    go_wp2_with fail
    go_roundw
    case rel=>first | exact ⟨q+1,by omega,by go_num,HO.out,grw⟩ | ((repeat apply Exists.intro);exact ⟨⟨q+1,by omega,by go_num,HO.out,grw⟩,rfl⟩)
    case measure=>simp [intOf];omega
   ·obtain rfl:q=J:=by omega
    have h1:=HE.out hlt
    rw [hs1] at h1
    rw [h1] at HN1
    clear h1 hs1
    go_wp2_with fail
    refine HN1.out.mono ?_
    rintro e w3 ⟨rfl,hb3⟩
    exact ⟨rfl,.inr ⟨hlt,rfl⟩,fun e=>absurd e (by omega),Got.of gq hb3⟩
  ·obtain rfl:q=m:=by omega
   obtain rfl:J=q:=by omega
   rw [List.take_of_length_le (by have:=HL.out;omega)] at hown
   obtain ⟨A4,c4,rfl,p4,q4,n4⟩:=own_form hown
   have lq:¬ (J:Int)<J:=by omega
   go_wp2_with fail
   refine bodyPost_ret (v:=.slice A4 J c4) (by simp [results,Tryz.results55,go_sem]) rfl ?_
   exact ⟨⟨A4,c4,rfl,w2.heap.size,by omega,hown⟩,(H1.out.below HB2.out).below bel,Got.of (Got.of HG1.out HB2.out) bel⟩
theorem wlist_ok (g:GOK w) (h:WSt w b A n c L k) {l:List Int} (hl:pList L k=some l) :
  Calls Tryz.prog 55 #[.pointer (some ⟨b,0,none⟩)] w fun e w'=>(∃ A' c' m0,e=.returned (.slice A' l.length c')∧w.heap.size≤m0∧w'.ownsRow m0 3 1 (.slice A' l.length c') l.length (l.map (Value.int .i64)))∧WSt w' b A n c L (k+1)∧Got b w w':=by
 unfold pList at hl
 split at hl
 ·rename_i hk
  dsimp only at hl
  split at hl
  ·rename_i hj
   injection hl with hl
   subst hl
   refine (wlist_any g h (by rw [← h.2.1];exact hk) _ rfl _ _ rfl rfl).mono ?_
   rintro e w' ⟨h1 | h1,h2,h3⟩
   ·obtain ⟨_,A',c',m0,h4,h5,h6⟩:=h1
    rw [← hj] at h4 h6
    exact ⟨⟨A',c',m0,h4,h5,h6⟩,h2 hj,h3⟩
   ·omega
  ·cases hl
 ·cases hl
theorem wlist_no (g:GOK w) (h:WSt w b A n c L k) (hl:pList L k=none) :
  Calls Tryz.prog 55 #[.pointer (some ⟨b,0,none⟩)] w fun e w'=>e=Fault 11∧Got b w w':=by
 unfold pList at hl
 split at hl
 ·rename_i hk
  dsimp only at hl
  split at hl
  ·cases hl
  ·rename_i hj
   refine (wlist_any g h (by rw [← h.2.1];exact hk) _ rfl _ _ rfl rfl).mono ?_
   rintro e w' ⟨h1 | h1,h2,h3⟩
   ·exact absurd h1.1 hj
   ·exact ⟨h1.2,h3⟩
 ·rename_i hk
  have:=h.2.1
  have:=h.2.2.1
  obtain rfl:k=n:=by omega
  have HN:=Lib.hid (wnext_no h)
  clear h g hl
  go_enter Tryz.func55,Tryz.ntmps55
  go_wp2_with fail
  refine HN.out.mono ?_
  rintro e w1 ⟨rfl,hg1⟩
  exact ⟨rfl,rfl,hg1⟩
end Go.Proofs.YtnaebigoknfndaaGreatDoor
namespace Go.Proofs.YtnaebigoknfndaaGreatDoor
open Go Go.RowKit
def EntersF (f:FuncId):Prop:=∀ (args:Array Value) (w:World),(callFunc f args).run Tryz.prog w=.ok (.enter f args) w
def ReadClo (w:World) (v:Value) (o:Out):Prop:=∃ f caps,v=.func (.func f) #[] caps∧EntersF f∧∀ w2,Below w.heap.size w w2→GOK w2→Calls Tryz.prog f caps w2 fun e w3=>e=o.e∧Below w2.heap.size w2 w3
theorem own_got {w w':World} {m e s n b:Nat} {v:Value} {xs:List Value} (h:w.ownsRow m e s v n xs) (hg:Got b w w') (hb:b<m):w'.ownsRow m e s v n xs:=by
 refine ⟨h.1,?_⟩
 rcases h.2 with h1 | ⟨g,cap,cur,rfl,h1,h2,h3⟩
 ·exact .inl h1
 ·exact .inr ⟨g,cap,cur,rfl,h1,(hg.block g (Array.getElem?_eq_some_iff.1 h2).1 (fun e=>by injection e with e;omega)).trans h2,h3⟩
theorem inRow_own {w:World} {m n c:Nat} {A:Option Addr} {l:List Int} (h:w.ownsRow m 3 1 (.slice A n c) n (l.map (Value.int .i64))):InRow w A n c l:=by
 obtain ⟨A2,c2,e,hin,_⟩:=own_inRow h
 simp only [Value.slice.injEq] at e
 obtain ⟨rfl,_,rfl⟩:=e
 exact hin
variable {w w':World} {b n c k:Nat} {A:Option Addr} {L:List ByteArray}
def ValR (R:Option (Out×Nat)) (s:ByteArray) (L:List ByteArray) (k:Nat):Prop:=
 (∀ o k',R=some (o,k')→OutOK o)∧∀ w b A n c,GOK w→WSt w b A n c L k→Calls Tryz.prog 28 #[.string s,.pointer (some ⟨b,0,none⟩)] w fun e w'=>
  match R with
  | none=>e=Fault 11∧Got b w w'
  | some (o,k')=>∃ v,e=.returned v∧ReadClo w' v o∧WSt w' b A n c L k'∧Got b w w'
theorem values_nolist (s:ByteArray) (hl:pList L k=none):ValR none s L k:=by
 refine ⟨fun _ _ h=>(by cases h),fun w b A n c g h=>?_⟩
 have HL:=Lib.hid (wlist_no g h hl)
 clear g h hl
 go_enter Tryz.func28,Tryz.ntmps28
 go_wp2_with fail
 refine HL.out.mono ?_
 rintro e w1 ⟨rfl,hg1⟩
 exact ⟨rfl,rfl,hg1⟩
theorem pList_len {l:List Int} (h:pList L k=some l) (hs:(L.getD k ⟨#[]⟩).size≤1048576):l.length≤9223372036854775807:=by
 unfold pList at h
 split at h
 ·dsimp only at h
  split at h
  ·rename_i h1
   injection h with h
   subst h
   rw [h1,partsB_len]
   have:=countB_size 44 (L.getD k ⟨#[]⟩)
   omega
  ·cases h
 ·cases h
theorem values_sums (s:ByteArray) (hs:s=ByteArray.mk #[115,117,109,115]) {l:List Int} (hl:pList L k=some l) (hz:(L.getD k ⟨#[]⟩).size≤1048576):∃ R,ValR R s L k:=by
 obtain ⟨o,ho,H⟩:=vsums_ex l (pList_len hl hz)
 refine ⟨some (o,k+1),fun _ _ e=>(by cases e;exact ho),fun w b A n c g h=>?_⟩
 have HL:=Lib.hid (wlist_ok g h hl)
 have hbl:=h.lt
 have q_sums:(s.toList == [115,117,109,115])=true:=lit_of hs
 have hmf:=mkfun
 have HH:=Lib.hid H
 have qa:=alloc_cells
 have qf:=alloc_frozens
 obtain ⟨m,hm⟩:∃ m,l.length=m:=⟨_,rfl⟩
 rw [hm] at HL HH
 clear hs hl H ho g h hm
 go_enter Tryz.func28,Tryz.ntmps28
 go_wp2_with fail
 refine HL.out.mono ?_
 rintro e w1 ⟨⟨A',c',m0,rfl,hm0,own1⟩,h1,hg1⟩
 have hba:Below w1.heap.size w1 (w1.alloc (.cells #[.slice A' m c'] 90)):=(Below.refl _ _).alloc (Nat.le_refl _) _
 have HK:=Lib.hid (⟨inRow_own (own_below own1 hba),h1.below hba,Got.of hg1 hba,hg1.size⟩:_∧_∧_∧_)
 clear own1 h1 hg1 hba
 go_wp2_with fail
 refine bodyPost_ret (v:=.func (.func 56) #[] #[.pointer (some ⟨w1.heap.size,0,none⟩)]) (by simp [results,Tryz.results28,go_sem]) rfl ?_
 obtain ⟨hin,hws,hgot,hsz⟩:=HK.out
 refine ⟨_,rfl,⟨_,_,rfl,enters_of Tryz.func56 (by kernel_rfl) rfl,fun w2 hb2 g2=>?_⟩,hws,hgot⟩
 have lt1:w1.heap.size<(w1.alloc (.cells #[.slice A' m c'] 90)).heap.size:=by simp
 exact HH.out w2 w1.heap.size A' c' g2 (hin.below hb2) ((hb2.cell (p:=⟨w1.heap.size,0,none⟩) lt1).trans (by simp [qa])) (Nat.lt_of_lt_of_le lt1 hb2.size)
theorem values_mean_of (s:ByteArray) (hs:s=ByteArray.mk #[109,101,97,110]) {l:List Int} (hl:pList L k=some l) (hz:(L.getD k ⟨#[]⟩).size≤1048576) (o:Out) (ho:OutOK o)
  (H:∀ w p A c,GOK w→InRow w A l.length c l→w.cell? ⟨p,0,none⟩=some (.slice A l.length c)→p<w.heap.size→Calls Tryz.prog 59 #[.pointer (some ⟨p,0,none⟩)] w fun e w'=>e=o.e∧Below w.heap.size w w'):ValR (some (o,k+1)) s L k:=by
 refine ⟨fun _ _ e=>(by cases e;exact ho),fun w b A n c g h=>?_⟩
 have HL:=Lib.hid (wlist_ok g h hl)
 have hbl:=h.lt
 have q_sums:(s.toList == [115,117,109,115])=false:=lit_of hs
 have q_mean:(s.toList == [109,101,97,110])=true:=lit_of hs
 have hmf:=mkfun
 have HH:=Lib.hid H
 have qa:=alloc_cells
 have qf:=alloc_frozens
 obtain ⟨m,hm⟩:∃ m,l.length=m:=⟨_,rfl⟩
 rw [hm] at HL HH
 clear hs hl H ho g h hm
 go_enter Tryz.func28,Tryz.ntmps28
 go_wp2_with fail
 refine HL.out.mono ?_
 rintro e w1 ⟨⟨A',c',m0,rfl,hm0,own1⟩,h1,hg1⟩
 have hba:Below w1.heap.size w1 (w1.alloc (.cells #[.slice A' m c'] 90)):=(Below.refl _ _).alloc (Nat.le_refl _) _
 have HK:=Lib.hid (⟨inRow_own (own_below own1 hba),h1.below hba,Got.of hg1 hba,hg1.size⟩:_∧_∧_∧_)
 clear own1 h1 hg1 hba
 go_wp2_with fail
 refine bodyPost_ret (v:=.func (.func 59) #[] #[.pointer (some ⟨w1.heap.size,0,none⟩)]) (by simp [results,Tryz.results28,go_sem]) rfl ?_
 obtain ⟨hin,hws,hgot,hsz⟩:=HK.out
 refine ⟨_,rfl,⟨_,_,rfl,enters_of Tryz.func59 (by kernel_rfl) rfl,fun w2 hb2 g2=>?_⟩,hws,hgot⟩
 have lt1:w1.heap.size<(w1.alloc (.cells #[.slice A' m c'] 90)).heap.size:=by simp
 exact HH.out w2 w1.heap.size A' c' g2 (hin.below hb2) ((hb2.cell (p:=⟨w1.heap.size,0,none⟩) lt1).trans (by simp [qa])) (Nat.lt_of_lt_of_le lt1 hb2.size)
theorem values_mean (s:ByteArray) (hs:s=ByteArray.mk #[109,101,97,110]) {l:List Int} (hl:pList L k=some l) (hz:(L.getD k ⟨#[]⟩).size≤1048576):∃ R,ValR R s L k:=by
 obtain ⟨o,ho,H⟩:=vmean_ex l (pList_len hl hz)
 exact ⟨_,values_mean_of s hs hl hz o ho H⟩
theorem values_spread (s:ByteArray) (hs:s=ByteArray.mk #[115,112,114,101,97,100]) {l:List Int} (hl:pList L k=some l) (hz:(L.getD k ⟨#[]⟩).size≤1048576):∃ R,ValR R s L k:=by
 obtain ⟨o,ho,H⟩:=vspread_ex l (pList_len hl hz)
 refine ⟨some (o,k+1),fun _ _ e=>(by cases e;exact ho),fun w b A n c g h=>?_⟩
 have HL:=Lib.hid (wlist_ok g h hl)
 have hbl:=h.lt
 have q_sums:(s.toList == [115,117,109,115])=false:=lit_of hs
 have q_mean:(s.toList == [109,101,97,110])=false:=lit_of hs
 have q_spread:(s.toList == [115,112,114,101,97,100])=true:=lit_of hs
 have hmf:=mkfun
 have HH:=Lib.hid H
 have qa:=alloc_cells
 have qf:=alloc_frozens
 obtain ⟨m,hm⟩:∃ m,l.length=m:=⟨_,rfl⟩
 rw [hm] at HL HH
 clear hs hl H ho g h hm
 go_enter Tryz.func28,Tryz.ntmps28
 go_wp2_with fail
 refine HL.out.mono ?_
 rintro e w1 ⟨⟨A',c',m0,rfl,hm0,own1⟩,h1,hg1⟩
 have hba:Below w1.heap.size w1 (w1.alloc (.cells #[.slice A' m c'] 90)):=(Below.refl _ _).alloc (Nat.le_refl _) _
 have HK:=Lib.hid (⟨inRow_own (own_below own1 hba),h1.below hba,Got.of hg1 hba,hg1.size⟩:_∧_∧_∧_)
 clear own1 h1 hg1 hba
 go_wp2_with fail
 refine bodyPost_ret (v:=.func (.func 61) #[] #[.pointer (some ⟨w1.heap.size,0,none⟩)]) (by simp [results,Tryz.results28,go_sem]) rfl ?_
 obtain ⟨hin,hws,hgot,hsz⟩:=HK.out
 refine ⟨_,rfl,⟨_,_,rfl,enters_of Tryz.func61 (by kernel_rfl) rfl,fun w2 hb2 g2=>?_⟩,hws,hgot⟩
 have lt1:w1.heap.size<(w1.alloc (.cells #[.slice A' m c'] 90)).heap.size:=by simp
 exact HH.out w2 w1.heap.size A' c' g2 (hin.below hb2) ((hb2.cell (p:=⟨w1.heap.size,0,none⟩) lt1).trans (by simp [qa])) (Nat.lt_of_lt_of_le lt1 hb2.size)
end Go.Proofs.YtnaebigoknfndaaGreatDoor
namespace Go.Proofs.YtnaebigoknfndaaGreatDoor
open Go Go.RowKit
def pNext (L:List ByteArray) (k:Nat):Option ByteArray:=if k<L.length then some (L.getD k ⟨#[]⟩) else none
theorem pNum_nonneg {L:List ByteArray} {k:Nat} {x:Int} (h:pNum L k=some x):0≤x:=by
 unfold pNum at h
 split at h
 ·unfold numW at h
  split at h
  ·split at h
   ·rename_i h1;cases h;exact h1.1
   ·cases h
  ·cases h
 ·cases h
section
variable {w w':World} {b n c k:Nat} {A:Option Addr} {L:List ByteArray}
theorem wnextP_ok (h:WSt w b A n c L k) {s:ByteArray} (hx:pNext L k=some s) :
  Calls Tryz.prog 49 #[.pointer (some ⟨b,0,none⟩)] w fun e w'=>e=.returned (.string s)∧WSt w' b A n c L (k+1)∧Got b w w':=by
 unfold pNext at hx
 split at hx
 ·cases hx
  exact wnext_ok _ h (by rw [← h.2.1];assumption) rfl
 ·cases hx
theorem wnextP_no (h:WSt w b A n c L k) (hx:pNext L k=none) :
  Calls Tryz.prog 49 #[.pointer (some ⟨b,0,none⟩)] w fun e w'=>e=Fault 11∧Got b w w':=by
 unfold pNext at hx
 split at hx
 ·cases hx
 ·have h1:=h.2.1
  have h2:=h.2.2.1
  obtain rfl:k=n:=by omega
  exact wnext_no h
end
def AskClo (w:World) (v:Value) (d:Nat) (S:DSt) (f:Nat→Prop) (o:Out) (S':DSt):Prop:=∃ fid caps,v=.func (.func fid) #[] caps∧EntersF fid∧∀ w2,Below w.heap.size w w2→GOK w2→DRep w2 d S f→Calls Tryz.prog fid caps w2 (Done o d S' f w2)
def AskR (R:Option (Out×DSt×Nat)) (S:DSt) (s:ByteArray) (L:List ByteArray) (k:Nat):Prop:=
 (∀ o S' k',R=some (o,S',k')→OutOK o∧DOK S')∧∀ w d f b A n c,GOK w→DRep w d S f→WSt w b A n c L k→Calls Tryz.prog 29 #[.pointer (some ⟨d,0,none⟩),.string s,.pointer (some ⟨b,0,none⟩)] w fun e w'=>
  match R with
  | none=>e=Fault 11∧Got b w w'
  | some (o,S',k')=>∃ v,e=.returned v∧AskClo w' v d S f o S'∧WSt w' b A n c L k'∧Got b w w'
variable {b n c k:Nat} {A:Option Addr} {L:List ByteArray} {S:DSt}
theorem asks_node_no0 (s:ByteArray) (hs:s=ByteArray.mk #[110,111,100,101])   (hx0:pNext L (k)=none):AskR none S s L k:=by
 refine ⟨fun _ _ _ h=>(by cases h),fun w d f b A n c g hD h=>?_⟩
 have hbl:=h.lt
 have h10:=h.2.2.2.2.1
 have q_node:(s.toList == [110,111,100,101])=true:=lit_of hs
 have hmf:=mkfun
 have qa:=alloc_cells
 have qf:=alloc_frozens
 have HF:=Lib.hid (fun x (hx:f x)=>(hD.lt x hx).2)
 have hba:Below w.heap.size w (w.alloc (.cells #[.pointer (some ⟨d,0,none⟩)] 33)):=(Below.refl _ _).alloc (Nat.le_refl _) _
 have HG:=Lib.hid (fun w' (hg:Got b w w')=>g.grown hg h10)
 have H0:=Lib.hid (h.below hba)
 have G0:=Lib.hid (Got.of (Got.refl b w) hba)
 have hzz:w.heap.size<(w.alloc (.cells #[.pointer (some ⟨d,0,none⟩)] 33)).heap.size:=by simp
 have P0:=Lib.hid (show (w.alloc (.cells #[.pointer (some ⟨d,0,none⟩)] 33)).cell? ⟨w.heap.size,0,none⟩=some (.pointer (some ⟨d,0,none⟩)) by simp [alloc_cells])
 have N0:=Lib.hid (fun w' (h:WSt w' b A n c L k)=>wnextP_no h hx0)
 clear hs g h hD hba hx0
 go_enter Tryz.func29,Tryz.ntmps29
 go_wp2_with fail
 refine (N0.out _ H0.out).mono ?_
 rintro e w1 ⟨rfl,hg1⟩
 exact ⟨rfl,rfl,grown_trans G0.out hg1⟩
theorem asks_node_no1 (s:ByteArray) (hs:s=ByteArray.mk #[110,111,100,101]) {v0:ByteArray} (hx0:pNext L (k)=some v0) (hx1:pNum L (k+1)=none):AskR none S s L k:=by
 refine ⟨fun _ _ _ h=>(by cases h),fun w d f b A n c g hD h=>?_⟩
 have hbl:=h.lt
 have h10:=h.2.2.2.2.1
 have q_node:(s.toList == [110,111,100,101])=true:=lit_of hs
 have hmf:=mkfun
 have qa:=alloc_cells
 have qf:=alloc_frozens
 have HF:=Lib.hid (fun x (hx:f x)=>(hD.lt x hx).2)
 have hba:Below w.heap.size w (w.alloc (.cells #[.pointer (some ⟨d,0,none⟩)] 33)):=(Below.refl _ _).alloc (Nat.le_refl _) _
 have HG:=Lib.hid (fun w' (hg:Got b w w')=>g.grown hg h10)
 have H0:=Lib.hid (h.below hba)
 have G0:=Lib.hid (Got.of (Got.refl b w) hba)
 have hzz:w.heap.size<(w.alloc (.cells #[.pointer (some ⟨d,0,none⟩)] 33)).heap.size:=by simp
 have P0:=Lib.hid (show (w.alloc (.cells #[.pointer (some ⟨d,0,none⟩)] 33)).cell? ⟨w.heap.size,0,none⟩=some (.pointer (some ⟨d,0,none⟩)) by simp [alloc_cells])
 have N0:=Lib.hid (fun w' (h:WSt w' b A n c L k)=>wnextP_ok h hx0)
 have N1:=Lib.hid (fun w' (g:GOK w') (h:WSt w' b A n c L (k+1))=>wnum_no g h hx1)
 clear hs g h hD hba hx0 hx1
 go_enter Tryz.func29,Tryz.ntmps29
 go_wp2_with fail
 refine (N0.out _ H0.out).mono ?_
 rintro e w1 ⟨rfl,h1,hg1⟩
 have P1:=Lib.hid ((Got.cells hg1 (x:=w.heap.size) (o:=0) (by simp) (by omega)).1.trans P0.out)
 have hz1:=hg1.size
 have G1:=Lib.hid (grown_trans G0.out hg1)
 have H1:=Lib.hid h1
 clear h1 hg1
 go_wp2_with fail
 refine (N1.out _ (HG.out _ G1.out) H1.out).mono ?_
 rintro e w2 ⟨rfl,hg2⟩
 exact ⟨rfl,rfl,grown_trans G1.out hg2⟩
theorem asks_node_no2 (s:ByteArray) (hs:s=ByteArray.mk #[110,111,100,101]) {v0:ByteArray} {v1:Int} (hx0:pNext L (k)=some v0) (hx1:pNum L (k+1)=some v1) (hx2:pNum L (k+2)=none):AskR none S s L k:=by
 refine ⟨fun _ _ _ h=>(by cases h),fun w d f b A n c g hD h=>?_⟩
 have hbl:=h.lt
 have h10:=h.2.2.2.2.1
 have q_node:(s.toList == [110,111,100,101])=true:=lit_of hs
 have hmf:=mkfun
 have qa:=alloc_cells
 have qf:=alloc_frozens
 have HF:=Lib.hid (fun x (hx:f x)=>(hD.lt x hx).2)
 have hba:Below w.heap.size w (w.alloc (.cells #[.pointer (some ⟨d,0,none⟩)] 33)):=(Below.refl _ _).alloc (Nat.le_refl _) _
 have HG:=Lib.hid (fun w' (hg:Got b w w')=>g.grown hg h10)
 have H0:=Lib.hid (h.below hba)
 have G0:=Lib.hid (Got.of (Got.refl b w) hba)
 have hzz:w.heap.size<(w.alloc (.cells #[.pointer (some ⟨d,0,none⟩)] 33)).heap.size:=by simp
 have P0:=Lib.hid (show (w.alloc (.cells #[.pointer (some ⟨d,0,none⟩)] 33)).cell? ⟨w.heap.size,0,none⟩=some (.pointer (some ⟨d,0,none⟩)) by simp [alloc_cells])
 have N0:=Lib.hid (fun w' (h:WSt w' b A n c L k)=>wnextP_ok h hx0)
 have N1:=Lib.hid (fun w' (g:GOK w') (h:WSt w' b A n c L (k+1))=>wnum_ok g h hx1)
 have N2:=Lib.hid (fun w' (g:GOK w') (h:WSt w' b A n c L (k+2))=>wnum_no g h hx2)
 clear hs g h hD hba hx0 hx1 hx2
 go_enter Tryz.func29,Tryz.ntmps29
 go_wp2_with fail
 refine (N0.out _ H0.out).mono ?_
 rintro e w1 ⟨rfl,h1,hg1⟩
 have P1:=Lib.hid ((Got.cells hg1 (x:=w.heap.size) (o:=0) (by simp) (by omega)).1.trans P0.out)
 have hz1:=hg1.size
 have G1:=Lib.hid (grown_trans G0.out hg1)
 have H1:=Lib.hid h1
 clear h1 hg1
 go_wp2_with fail
 refine (N1.out _ (HG.out _ G1.out) H1.out).mono ?_
 rintro e w2 ⟨rfl,h2,hg2⟩
 have P2:=Lib.hid ((Got.cells hg2 (x:=w.heap.size) (o:=0) (by omega) (by omega)).1.trans P1.out)
 have hz2:=hg2.size
 have G2:=Lib.hid (grown_trans G1.out hg2)
 have H2:=Lib.hid h2
 clear h2 hg2
 go_wp2_with fail
 refine (N2.out _ (HG.out _ G2.out) H2.out).mono ?_
 rintro e w3 ⟨rfl,hg3⟩
 exact ⟨rfl,rfl,grown_trans G2.out hg3⟩
theorem asks_node_no3 (s:ByteArray) (hs:s=ByteArray.mk #[110,111,100,101]) {v0:ByteArray} {v1:Int} {v2:Int} (hx0:pNext L (k)=some v0) (hx1:pNum L (k+1)=some v1) (hx2:pNum L (k+2)=some v2) (hx3:pNum L (k+3)=none):AskR none S s L k:=by
 refine ⟨fun _ _ _ h=>(by cases h),fun w d f b A n c g hD h=>?_⟩
 have hbl:=h.lt
 have h10:=h.2.2.2.2.1
 have q_node:(s.toList == [110,111,100,101])=true:=lit_of hs
 have hmf:=mkfun
 have qa:=alloc_cells
 have qf:=alloc_frozens
 have HF:=Lib.hid (fun x (hx:f x)=>(hD.lt x hx).2)
 have hba:Below w.heap.size w (w.alloc (.cells #[.pointer (some ⟨d,0,none⟩)] 33)):=(Below.refl _ _).alloc (Nat.le_refl _) _
 have HG:=Lib.hid (fun w' (hg:Got b w w')=>g.grown hg h10)
 have H0:=Lib.hid (h.below hba)
 have G0:=Lib.hid (Got.of (Got.refl b w) hba)
 have hzz:w.heap.size<(w.alloc (.cells #[.pointer (some ⟨d,0,none⟩)] 33)).heap.size:=by simp
 have P0:=Lib.hid (show (w.alloc (.cells #[.pointer (some ⟨d,0,none⟩)] 33)).cell? ⟨w.heap.size,0,none⟩=some (.pointer (some ⟨d,0,none⟩)) by simp [alloc_cells])
 have N0:=Lib.hid (fun w' (h:WSt w' b A n c L k)=>wnextP_ok h hx0)
 have N1:=Lib.hid (fun w' (g:GOK w') (h:WSt w' b A n c L (k+1))=>wnum_ok g h hx1)
 have N2:=Lib.hid (fun w' (g:GOK w') (h:WSt w' b A n c L (k+2))=>wnum_ok g h hx2)
 have N3:=Lib.hid (fun w' (g:GOK w') (h:WSt w' b A n c L (k+3))=>wnum_no g h hx3)
 clear hs g h hD hba hx0 hx1 hx2 hx3
 go_enter Tryz.func29,Tryz.ntmps29
 go_wp2_with fail
 refine (N0.out _ H0.out).mono ?_
 rintro e w1 ⟨rfl,h1,hg1⟩
 have P1:=Lib.hid ((Got.cells hg1 (x:=w.heap.size) (o:=0) (by simp) (by omega)).1.trans P0.out)
 have hz1:=hg1.size
 have G1:=Lib.hid (grown_trans G0.out hg1)
 have H1:=Lib.hid h1
 clear h1 hg1
 go_wp2_with fail
 refine (N1.out _ (HG.out _ G1.out) H1.out).mono ?_
 rintro e w2 ⟨rfl,h2,hg2⟩
 have P2:=Lib.hid ((Got.cells hg2 (x:=w.heap.size) (o:=0) (by omega) (by omega)).1.trans P1.out)
 have hz2:=hg2.size
 have G2:=Lib.hid (grown_trans G1.out hg2)
 have H2:=Lib.hid h2
 clear h2 hg2
 go_wp2_with fail
 refine (N2.out _ (HG.out _ G2.out) H2.out).mono ?_
 rintro e w3 ⟨rfl,h3,hg3⟩
 have P3:=Lib.hid ((Got.cells hg3 (x:=w.heap.size) (o:=0) (by omega) (by omega)).1.trans P2.out)
 have hz3:=hg3.size
 have G3:=Lib.hid (grown_trans G2.out hg3)
 have H3:=Lib.hid h3
 clear h3 hg3
 go_wp2_with fail
 refine (N3.out _ (HG.out _ G3.out) H3.out).mono ?_
 rintro e w4 ⟨rfl,hg4⟩
 exact ⟨rfl,rfl,grown_trans G3.out hg4⟩
theorem asks_node (ok:DOK S) (s:ByteArray) (hs:s=ByteArray.mk #[110,111,100,101]) {v0:ByteArray} {v1:Int} {v2:Int} {v3:Int} (hx0:pNext L (k)=some v0) (hx1:pNum L (k+1)=some v1) (hx2:pNum L (k+2)=some v2) (hx3:pNum L (k+3)=some v3) (hz:v0.size≤1048576):∃ R,AskR R S s L k:=by
 obtain ⟨o,S',ho,hok,H⟩:=cnode_ex S ok ⟨v0,v1,v2,v3⟩ hz
 refine ⟨some (o,S',k+4),fun _ _ _ e=>(by cases e;exact ⟨ho,hok⟩),fun w d f b A n c g hD h=>?_⟩
 have hbl:=h.lt
 have h10:=h.2.2.2.2.1
 have q_node:(s.toList == [110,111,100,101])=true:=lit_of hs
 have hmf:=mkfun
 have qa:=alloc_cells
 have qf:=alloc_frozens
 have HF:=Lib.hid (fun x (hx:f x)=>(hD.lt x hx).2)
 have hba:Below w.heap.size w (w.alloc (.cells #[.pointer (some ⟨d,0,none⟩)] 33)):=(Below.refl _ _).alloc (Nat.le_refl _) _
 have HG:=Lib.hid (fun w' (hg:Got b w w')=>g.grown hg h10)
 have H0:=Lib.hid (h.below hba)
 have G0:=Lib.hid (Got.of (Got.refl b w) hba)
 have hzz:w.heap.size<(w.alloc (.cells #[.pointer (some ⟨d,0,none⟩)] 33)).heap.size:=by simp
 have P0:=Lib.hid (show (w.alloc (.cells #[.pointer (some ⟨d,0,none⟩)] 33)).cell? ⟨w.heap.size,0,none⟩=some (.pointer (some ⟨d,0,none⟩)) by simp [alloc_cells])
 have HH:=Lib.hid H
 have N0:=Lib.hid (fun w' (h:WSt w' b A n c L k)=>wnextP_ok h hx0)
 have N1:=Lib.hid (fun w' (g:GOK w') (h:WSt w' b A n c L (k+1))=>wnum_ok g h hx1)
 have N2:=Lib.hid (fun w' (g:GOK w') (h:WSt w' b A n c L (k+2))=>wnum_ok g h hx2)
 have N3:=Lib.hid (fun w' (g:GOK w') (h:WSt w' b A n c L (k+3))=>wnum_ok g h hx3)
 clear hs g h hD hba ho hok H hx0 hx1 hx2 hx3 hz
 go_enter Tryz.func29,Tryz.ntmps29
 go_wp2_with fail
 refine (N0.out _ H0.out).mono ?_
 rintro e w1 ⟨rfl,h1,hg1⟩
 have P1:=Lib.hid ((Got.cells hg1 (x:=w.heap.size) (o:=0) (by simp) (by omega)).1.trans P0.out)
 have hz1:=hg1.size
 have G1:=Lib.hid (grown_trans G0.out hg1)
 have H1:=Lib.hid h1
 clear h1 hg1
 go_wp2_with fail
 refine (N1.out _ (HG.out _ G1.out) H1.out).mono ?_
 rintro e w2 ⟨rfl,h2,hg2⟩
 have P2:=Lib.hid ((Got.cells hg2 (x:=w.heap.size) (o:=0) (by omega) (by omega)).1.trans P1.out)
 have hz2:=hg2.size
 have G2:=Lib.hid (grown_trans G1.out hg2)
 have H2:=Lib.hid h2
 clear h2 hg2
 go_wp2_with fail
 refine (N2.out _ (HG.out _ G2.out) H2.out).mono ?_
 rintro e w3 ⟨rfl,h3,hg3⟩
 have P3:=Lib.hid ((Got.cells hg3 (x:=w.heap.size) (o:=0) (by omega) (by omega)).1.trans P2.out)
 have hz3:=hg3.size
 have G3:=Lib.hid (grown_trans G2.out hg3)
 have H3:=Lib.hid h3
 clear h3 hg3
 go_wp2_with fail
 refine (N3.out _ (HG.out _ G3.out) H3.out).mono ?_
 rintro e w4 ⟨rfl,h4,hg4⟩
 have P4:=Lib.hid ((Got.cells hg4 (x:=w.heap.size) (o:=0) (by omega) (by omega)).1.trans P3.out)
 have hz4:=hg4.size
 have G4:=Lib.hid (grown_trans G3.out hg4)
 have H4:=Lib.hid h4
 clear h4 hg4
 go_wp2_with fail
 have hbb:Below w4.heap.size w4 (w4.alloc (.cells #[.string v0,.int .i64 0,.int .i64 v1,.int .i64 v2,.int .i64 v3] 106)):=((Below.refl _ _).alloc (Nat.le_refl _) _)
 have HK:=Lib.hid (⟨H4.out.below hbb,Got.of G4.out hbb⟩:_∧_)
 clear hbb
 refine bodyPost_ret (v:=.func (.func 75) #[] #[.pointer (some ⟨w.heap.size,0,none⟩),.pointer (some ⟨w4.heap.size,0,none⟩)]) (by simp [results,Tryz.results29,go_sem]) rfl ?_
 obtain ⟨hws,hgot⟩:=HK.out
 refine ⟨_,rfl,⟨_,_,rfl,enters_of Tryz.func75 (by kernel_rfl) rfl,fun wz hbz gz hDz=>?_⟩,hws,hgot⟩
 have lt0:w.heap.size<(w4.alloc (.cells #[.string v0,.int .i64 0,.int .i64 v1,.int .i64 v2,.int .i64 v3] 106)).heap.size:=by first | (simp;done) | (simp;omega)
 have lt1:w4.heap.size<(w4.alloc (.cells #[.string v0,.int .i64 0,.int .i64 v1,.int .i64 v2,.int .i64 v3] 106)).heap.size:=by first | (simp;done) | (simp;omega)
 exact HH.out wz d f w.heap.size (w4.heap.size) gz hDz ((hbz.cell (p:=⟨w.heap.size,0,none⟩) lt0).trans (by rw [qa,if_pos (by omega)];exact P4.out)) (Nat.lt_of_lt_of_le lt0 hbz.size) (fun e=>Nat.lt_irrefl _ (HF.out _ e)) ((hbz.block _ lt1).trans (heap_alloc_new' _ _)) (fun e=>by have:=HF.out _ e;omega)
theorem asks_start (ok:DOK S) (s:ByteArray) (hs:s=ByteArray.mk #[115,116,97,114,116])   : ∃ R,AskR R S s L k:=by
 obtain ⟨o,S',ho,hok,H⟩:=cstart_ex S ok
 refine ⟨some (o,S',k),fun _ _ _ e=>(by cases e;exact ⟨ho,hok⟩),fun w d f b A n c g hD h=>?_⟩
 have hbl:=h.lt
 have h10:=h.2.2.2.2.1
 have q_node:(s.toList == [110,111,100,101])=false:=lit_of hs
 have q_start:(s.toList == [115,116,97,114,116])=true:=lit_of hs
 have hmf:=mkfun
 have qa:=alloc_cells
 have qf:=alloc_frozens
 have HF:=Lib.hid (fun x (hx:f x)=>(hD.lt x hx).2)
 have hba:Below w.heap.size w (w.alloc (.cells #[.pointer (some ⟨d,0,none⟩)] 33)):=(Below.refl _ _).alloc (Nat.le_refl _) _
 have HG:=Lib.hid (fun w' (hg:Got b w w')=>g.grown hg h10)
 have H0:=Lib.hid (h.below hba)
 have G0:=Lib.hid (Got.of (Got.refl b w) hba)
 have hzz:w.heap.size<(w.alloc (.cells #[.pointer (some ⟨d,0,none⟩)] 33)).heap.size:=by simp
 have P0:=Lib.hid (show (w.alloc (.cells #[.pointer (some ⟨d,0,none⟩)] 33)).cell? ⟨w.heap.size,0,none⟩=some (.pointer (some ⟨d,0,none⟩)) by simp [alloc_cells])
 have HH:=Lib.hid H
 clear hs g h hD hba ho hok H
 go_enter Tryz.func29,Tryz.ntmps29
 go_wp2_with fail
 have HK:=Lib.hid (⟨H0.out,G0.out⟩:_∧_)
 refine bodyPost_ret (v:=.func (.func 77) #[] #[.pointer (some ⟨w.heap.size,0,none⟩)]) (by simp [results,Tryz.results29,go_sem]) rfl ?_
 obtain ⟨hws,hgot⟩:=HK.out
 refine ⟨_,rfl,⟨_,_,rfl,enters_of Tryz.func77 (by kernel_rfl) rfl,fun wz hbz gz hDz=>?_⟩,hws,hgot⟩
 have lt0:w.heap.size<(w.alloc (.cells #[.pointer (some ⟨d,0,none⟩)] 33)).heap.size:=by first | (simp;done) | (simp;omega)
 exact HH.out wz d f w.heap.size  gz hDz ((hbz.cell (p:=⟨w.heap.size,0,none⟩) lt0).trans P0.out) (Nat.lt_of_lt_of_le lt0 hbz.size) (fun e=>Nat.lt_irrefl _ (HF.out _ e))
theorem asks_way (ok:DOK S) (s:ByteArray) (hs:s=ByteArray.mk #[119,97,121])   : ∃ R,AskR R S s L k:=by
 obtain ⟨o,S',ho,hok,H⟩:=cway_ex S ok
 refine ⟨some (o,S',k),fun _ _ _ e=>(by cases e;exact ⟨ho,hok⟩),fun w d f b A n c g hD h=>?_⟩
 have hbl:=h.lt
 have h10:=h.2.2.2.2.1
 have q_node:(s.toList == [110,111,100,101])=false:=lit_of hs
 have q_start:(s.toList == [115,116,97,114,116])=false:=lit_of hs
 have q_way:(s.toList == [119,97,121])=true:=lit_of hs
 have hmf:=mkfun
 have qa:=alloc_cells
 have qf:=alloc_frozens
 have HF:=Lib.hid (fun x (hx:f x)=>(hD.lt x hx).2)
 have hba:Below w.heap.size w (w.alloc (.cells #[.pointer (some ⟨d,0,none⟩)] 33)):=(Below.refl _ _).alloc (Nat.le_refl _) _
 have HG:=Lib.hid (fun w' (hg:Got b w w')=>g.grown hg h10)
 have H0:=Lib.hid (h.below hba)
 have G0:=Lib.hid (Got.of (Got.refl b w) hba)
 have hzz:w.heap.size<(w.alloc (.cells #[.pointer (some ⟨d,0,none⟩)] 33)).heap.size:=by simp
 have P0:=Lib.hid (show (w.alloc (.cells #[.pointer (some ⟨d,0,none⟩)] 33)).cell? ⟨w.heap.size,0,none⟩=some (.pointer (some ⟨d,0,none⟩)) by simp [alloc_cells])
 have HH:=Lib.hid H
 clear hs g h hD hba ho hok H
 go_enter Tryz.func29,Tryz.ntmps29
 go_wp2_with fail
 have HK:=Lib.hid (⟨H0.out,G0.out⟩:_∧_)
 refine bodyPost_ret (v:=.func (.func 78) #[] #[.pointer (some ⟨w.heap.size,0,none⟩)]) (by simp [results,Tryz.results29,go_sem]) rfl ?_
 obtain ⟨hws,hgot⟩:=HK.out
 refine ⟨_,rfl,⟨_,_,rfl,enters_of Tryz.func78 (by kernel_rfl) rfl,fun wz hbz gz hDz=>?_⟩,hws,hgot⟩
 have lt0:w.heap.size<(w.alloc (.cells #[.pointer (some ⟨d,0,none⟩)] 33)).heap.size:=by first | (simp;done) | (simp;omega)
 exact HH.out wz d f w.heap.size  gz hDz ((hbz.cell (p:=⟨w.heap.size,0,none⟩) lt0).trans P0.out) (Nat.lt_of_lt_of_le lt0 hbz.size) (fun e=>Nat.lt_irrefl _ (HF.out _ e))
theorem asks_tick_no0 (s:ByteArray) (hs:s=ByteArray.mk #[116,105,99,107])   (hx0:pNum L (k)=none):AskR none S s L k:=by
 refine ⟨fun _ _ _ h=>(by cases h),fun w d f b A n c g hD h=>?_⟩
 have hbl:=h.lt
 have h10:=h.2.2.2.2.1
 have q_node:(s.toList == [110,111,100,101])=false:=lit_of hs
 have q_start:(s.toList == [115,116,97,114,116])=false:=lit_of hs
 have q_way:(s.toList == [119,97,121])=false:=lit_of hs
 have q_tick:(s.toList == [116,105,99,107])=true:=lit_of hs
 have hmf:=mkfun
 have qa:=alloc_cells
 have qf:=alloc_frozens
 have HF:=Lib.hid (fun x (hx:f x)=>(hD.lt x hx).2)
 have hba:Below w.heap.size w (w.alloc (.cells #[.pointer (some ⟨d,0,none⟩)] 33)):=(Below.refl _ _).alloc (Nat.le_refl _) _
 have HG:=Lib.hid (fun w' (hg:Got b w w')=>g.grown hg h10)
 have H0:=Lib.hid (h.below hba)
 have G0:=Lib.hid (Got.of (Got.refl b w) hba)
 have hzz:w.heap.size<(w.alloc (.cells #[.pointer (some ⟨d,0,none⟩)] 33)).heap.size:=by simp
 have P0:=Lib.hid (show (w.alloc (.cells #[.pointer (some ⟨d,0,none⟩)] 33)).cell? ⟨w.heap.size,0,none⟩=some (.pointer (some ⟨d,0,none⟩)) by simp [alloc_cells])
 have N0:=Lib.hid (fun w' (g:GOK w') (h:WSt w' b A n c L k)=>wnum_no g h hx0)
 clear hs g h hD hba hx0
 go_enter Tryz.func29,Tryz.ntmps29
 go_wp2_with fail
 refine (N0.out _ (HG.out _ G0.out) H0.out).mono ?_
 rintro e w1 ⟨rfl,hg1⟩
 exact ⟨rfl,rfl,grown_trans G0.out hg1⟩
theorem asks_tick (ok:DOK S) (s:ByteArray) (hs:s=ByteArray.mk #[116,105,99,107]) {v0:Int} (hx0:pNum L (k)=some v0):∃ R,AskR R S s L k:=by
 obtain ⟨o,S',ho,hok,H⟩:=ctick_ex S ok v0
 refine ⟨some (o,S',k+1),fun _ _ _ e=>(by cases e;exact ⟨ho,hok⟩),fun w d f b A n c g hD h=>?_⟩
 have hbl:=h.lt
 have h10:=h.2.2.2.2.1
 have q_node:(s.toList == [110,111,100,101])=false:=lit_of hs
 have q_start:(s.toList == [115,116,97,114,116])=false:=lit_of hs
 have q_way:(s.toList == [119,97,121])=false:=lit_of hs
 have q_tick:(s.toList == [116,105,99,107])=true:=lit_of hs
 have hmf:=mkfun
 have qa:=alloc_cells
 have qf:=alloc_frozens
 have HF:=Lib.hid (fun x (hx:f x)=>(hD.lt x hx).2)
 have hba:Below w.heap.size w (w.alloc (.cells #[.pointer (some ⟨d,0,none⟩)] 33)):=(Below.refl _ _).alloc (Nat.le_refl _) _
 have HG:=Lib.hid (fun w' (hg:Got b w w')=>g.grown hg h10)
 have H0:=Lib.hid (h.below hba)
 have G0:=Lib.hid (Got.of (Got.refl b w) hba)
 have hzz:w.heap.size<(w.alloc (.cells #[.pointer (some ⟨d,0,none⟩)] 33)).heap.size:=by simp
 have P0:=Lib.hid (show (w.alloc (.cells #[.pointer (some ⟨d,0,none⟩)] 33)).cell? ⟨w.heap.size,0,none⟩=some (.pointer (some ⟨d,0,none⟩)) by simp [alloc_cells])
 have HH:=Lib.hid H
 have N0:=Lib.hid (fun w' (g:GOK w') (h:WSt w' b A n c L k)=>wnum_ok g h hx0)
 clear hs g h hD hba ho hok H hx0
 go_enter Tryz.func29,Tryz.ntmps29
 go_wp2_with fail
 refine (N0.out _ (HG.out _ G0.out) H0.out).mono ?_
 rintro e w1 ⟨rfl,h1,hg1⟩
 have P1:=Lib.hid ((Got.cells hg1 (x:=w.heap.size) (o:=0) (by simp) (by omega)).1.trans P0.out)
 have hz1:=hg1.size
 have G1:=Lib.hid (grown_trans G0.out hg1)
 have H1:=Lib.hid h1
 clear h1 hg1
 go_wp2_with fail
 have hbb:Below w1.heap.size w1 (w1.alloc (.cells #[.int .i64 v0] 3)):=((Below.refl _ _).alloc (Nat.le_refl _) _)
 have HK:=Lib.hid (⟨H1.out.below hbb,Got.of G1.out hbb⟩:_∧_)
 clear hbb
 refine bodyPost_ret (v:=.func (.func 81) #[] #[.pointer (some ⟨w.heap.size,0,none⟩),.pointer (some ⟨w1.heap.size,0,none⟩)]) (by simp [results,Tryz.results29,go_sem]) rfl ?_
 obtain ⟨hws,hgot⟩:=HK.out
 refine ⟨_,rfl,⟨_,_,rfl,enters_of Tryz.func81 (by kernel_rfl) rfl,fun wz hbz gz hDz=>?_⟩,hws,hgot⟩
 have lt0:w.heap.size<(w1.alloc (.cells #[.int .i64 v0] 3)).heap.size:=by first | (simp;done) | (simp;omega)
 have lt1:w1.heap.size<(w1.alloc (.cells #[.int .i64 v0] 3)).heap.size:=by first | (simp;done) | (simp;omega)
 exact HH.out wz d f w.heap.size (w1.heap.size) gz hDz ((hbz.cell (p:=⟨w.heap.size,0,none⟩) lt0).trans (by rw [qa,if_pos (by omega)];exact P1.out)) (Nat.lt_of_lt_of_le lt0 hbz.size) (fun e=>Nat.lt_irrefl _ (HF.out _ e)) ((hbz.cell (p:=⟨w1.heap.size,0,none⟩) lt1).trans (by rw [qa];simp)) (Nat.lt_of_lt_of_le lt1 hbz.size) (fun e=>by have:=HF.out _ e;omega)
theorem asks_bring_no0 (s:ByteArray) (hs:s=ByteArray.mk #[98,114,105,110,103])   (hx0:pNum L (k)=none):AskR none S s L k:=by
 refine ⟨fun _ _ _ h=>(by cases h),fun w d f b A n c g hD h=>?_⟩
 have hbl:=h.lt
 have h10:=h.2.2.2.2.1
 have q_node:(s.toList == [110,111,100,101])=false:=lit_of hs
 have q_start:(s.toList == [115,116,97,114,116])=false:=lit_of hs
 have q_way:(s.toList == [119,97,121])=false:=lit_of hs
 have q_tick:(s.toList == [116,105,99,107])=false:=lit_of hs
 have q_bring:(s.toList == [98,114,105,110,103])=true:=lit_of hs
 have hmf:=mkfun
 have qa:=alloc_cells
 have qf:=alloc_frozens
 have HF:=Lib.hid (fun x (hx:f x)=>(hD.lt x hx).2)
 have hba:Below w.heap.size w (w.alloc (.cells #[.pointer (some ⟨d,0,none⟩)] 33)):=(Below.refl _ _).alloc (Nat.le_refl _) _
 have HG:=Lib.hid (fun w' (hg:Got b w w')=>g.grown hg h10)
 have H0:=Lib.hid (h.below hba)
 have G0:=Lib.hid (Got.of (Got.refl b w) hba)
 have hzz:w.heap.size<(w.alloc (.cells #[.pointer (some ⟨d,0,none⟩)] 33)).heap.size:=by simp
 have P0:=Lib.hid (show (w.alloc (.cells #[.pointer (some ⟨d,0,none⟩)] 33)).cell? ⟨w.heap.size,0,none⟩=some (.pointer (some ⟨d,0,none⟩)) by simp [alloc_cells])
 have N0:=Lib.hid (fun w' (g:GOK w') (h:WSt w' b A n c L k)=>wnum_no g h hx0)
 clear hs g h hD hba hx0
 go_enter Tryz.func29,Tryz.ntmps29
 go_wp2_with fail
 refine (N0.out _ (HG.out _ G0.out) H0.out).mono ?_
 rintro e w1 ⟨rfl,hg1⟩
 exact ⟨rfl,rfl,grown_trans G0.out hg1⟩
theorem asks_bring_no1 (s:ByteArray) (hs:s=ByteArray.mk #[98,114,105,110,103]) {v0:Int} (hx0:pNum L (k)=some v0) (hx1:pNum L (k+1)=none):AskR none S s L k:=by
 refine ⟨fun _ _ _ h=>(by cases h),fun w d f b A n c g hD h=>?_⟩
 have hbl:=h.lt
 have h10:=h.2.2.2.2.1
 have q_node:(s.toList == [110,111,100,101])=false:=lit_of hs
 have q_start:(s.toList == [115,116,97,114,116])=false:=lit_of hs
 have q_way:(s.toList == [119,97,121])=false:=lit_of hs
 have q_tick:(s.toList == [116,105,99,107])=false:=lit_of hs
 have q_bring:(s.toList == [98,114,105,110,103])=true:=lit_of hs
 have hmf:=mkfun
 have qa:=alloc_cells
 have qf:=alloc_frozens
 have HF:=Lib.hid (fun x (hx:f x)=>(hD.lt x hx).2)
 have hba:Below w.heap.size w (w.alloc (.cells #[.pointer (some ⟨d,0,none⟩)] 33)):=(Below.refl _ _).alloc (Nat.le_refl _) _
 have HG:=Lib.hid (fun w' (hg:Got b w w')=>g.grown hg h10)
 have H0:=Lib.hid (h.below hba)
 have G0:=Lib.hid (Got.of (Got.refl b w) hba)
 have hzz:w.heap.size<(w.alloc (.cells #[.pointer (some ⟨d,0,none⟩)] 33)).heap.size:=by simp
 have P0:=Lib.hid (show (w.alloc (.cells #[.pointer (some ⟨d,0,none⟩)] 33)).cell? ⟨w.heap.size,0,none⟩=some (.pointer (some ⟨d,0,none⟩)) by simp [alloc_cells])
 have N0:=Lib.hid (fun w' (g:GOK w') (h:WSt w' b A n c L k)=>wnum_ok g h hx0)
 have N1:=Lib.hid (fun w' (g:GOK w') (h:WSt w' b A n c L (k+1))=>wnum_no g h hx1)
 clear hs g h hD hba hx0 hx1
 go_enter Tryz.func29,Tryz.ntmps29
 go_wp2_with fail
 refine (N0.out _ (HG.out _ G0.out) H0.out).mono ?_
 rintro e w1 ⟨rfl,h1,hg1⟩
 have P1:=Lib.hid ((Got.cells hg1 (x:=w.heap.size) (o:=0) (by simp) (by omega)).1.trans P0.out)
 have hz1:=hg1.size
 have G1:=Lib.hid (grown_trans G0.out hg1)
 have H1:=Lib.hid h1
 clear h1 hg1
 go_wp2_with fail
 refine (N1.out _ (HG.out _ G1.out) H1.out).mono ?_
 rintro e w2 ⟨rfl,hg2⟩
 exact ⟨rfl,rfl,grown_trans G1.out hg2⟩
theorem asks_bring (ok:DOK S) (s:ByteArray) (hs:s=ByteArray.mk #[98,114,105,110,103]) {v0:Int} {v1:Int} (hx0:pNum L (k)=some v0) (hx1:pNum L (k+1)=some v1):∃ R,AskR R S s L k:=by
 obtain ⟨o,S',ho,hok,H⟩:=cbring_ex S ok v0 v1 (pNum_nonneg hx0) (pNum_nonneg hx1)
 refine ⟨some (o,S',k+2),fun _ _ _ e=>(by cases e;exact ⟨ho,hok⟩),fun w d f b A n c g hD h=>?_⟩
 have hbl:=h.lt
 have h10:=h.2.2.2.2.1
 have q_node:(s.toList == [110,111,100,101])=false:=lit_of hs
 have q_start:(s.toList == [115,116,97,114,116])=false:=lit_of hs
 have q_way:(s.toList == [119,97,121])=false:=lit_of hs
 have q_tick:(s.toList == [116,105,99,107])=false:=lit_of hs
 have q_bring:(s.toList == [98,114,105,110,103])=true:=lit_of hs
 have hmf:=mkfun
 have qa:=alloc_cells
 have qf:=alloc_frozens
 have HF:=Lib.hid (fun x (hx:f x)=>(hD.lt x hx).2)
 have hba:Below w.heap.size w (w.alloc (.cells #[.pointer (some ⟨d,0,none⟩)] 33)):=(Below.refl _ _).alloc (Nat.le_refl _) _
 have HG:=Lib.hid (fun w' (hg:Got b w w')=>g.grown hg h10)
 have H0:=Lib.hid (h.below hba)
 have G0:=Lib.hid (Got.of (Got.refl b w) hba)
 have hzz:w.heap.size<(w.alloc (.cells #[.pointer (some ⟨d,0,none⟩)] 33)).heap.size:=by simp
 have P0:=Lib.hid (show (w.alloc (.cells #[.pointer (some ⟨d,0,none⟩)] 33)).cell? ⟨w.heap.size,0,none⟩=some (.pointer (some ⟨d,0,none⟩)) by simp [alloc_cells])
 have HH:=Lib.hid H
 have N0:=Lib.hid (fun w' (g:GOK w') (h:WSt w' b A n c L k)=>wnum_ok g h hx0)
 have N1:=Lib.hid (fun w' (g:GOK w') (h:WSt w' b A n c L (k+1))=>wnum_ok g h hx1)
 clear hs g h hD hba ho hok H hx0 hx1
 go_enter Tryz.func29,Tryz.ntmps29
 go_wp2_with fail
 refine (N0.out _ (HG.out _ G0.out) H0.out).mono ?_
 rintro e w1 ⟨rfl,h1,hg1⟩
 have P1:=Lib.hid ((Got.cells hg1 (x:=w.heap.size) (o:=0) (by simp) (by omega)).1.trans P0.out)
 have hz1:=hg1.size
 have G1:=Lib.hid (grown_trans G0.out hg1)
 have H1:=Lib.hid h1
 clear h1 hg1
 go_wp2_with fail
 refine (N1.out _ (HG.out _ G1.out) H1.out).mono ?_
 rintro e w2 ⟨rfl,h2,hg2⟩
 have P2:=Lib.hid ((Got.cells hg2 (x:=w.heap.size) (o:=0) (by omega) (by omega)).1.trans P1.out)
 have hz2:=hg2.size
 have G2:=Lib.hid (grown_trans G1.out hg2)
 have H2:=Lib.hid h2
 clear h2 hg2
 go_wp2_with fail
 have hbb:Below w2.heap.size w2 (((w2.alloc (.cells #[.int .i64 v0] 3))).alloc (.cells #[.int .i64 v1] 3)):=(((Below.refl _ _).alloc (Nat.le_refl _) _).alloc (by first | (simp;done) | (simp;omega)) _)
 have HK:=Lib.hid (⟨H2.out.below hbb,Got.of G2.out hbb⟩:_∧_)
 clear hbb
 refine bodyPost_ret (v:=.func (.func 84) #[] #[.pointer (some ⟨w.heap.size,0,none⟩),.pointer (some ⟨w2.heap.size,0,none⟩),.pointer (some ⟨w2.heap.size+1,0,none⟩)]) (by simp [results,Tryz.results29,go_sem]) rfl ?_
 obtain ⟨hws,hgot⟩:=HK.out
 refine ⟨_,rfl,⟨_,_,rfl,enters_of Tryz.func84 (by kernel_rfl) rfl,fun wz hbz gz hDz=>?_⟩,hws,hgot⟩
 have lt0:w.heap.size<(((w2.alloc (.cells #[.int .i64 v0] 3))).alloc (.cells #[.int .i64 v1] 3)).heap.size:=by first | (simp;done) | (simp;omega)
 have lt1:w2.heap.size<(((w2.alloc (.cells #[.int .i64 v0] 3))).alloc (.cells #[.int .i64 v1] 3)).heap.size:=by first | (simp;done) | (simp;omega)
 have lt2:w2.heap.size+1<(((w2.alloc (.cells #[.int .i64 v0] 3))).alloc (.cells #[.int .i64 v1] 3)).heap.size:=by first | (simp;done) | (simp;omega)
 exact HH.out wz d f w.heap.size (w2.heap.size) (w2.heap.size+1) gz hDz ((hbz.cell (p:=⟨w.heap.size,0,none⟩) lt0).trans (by rw [qa,if_pos (by first | (simp;done) | (simp;omega))];rw [qa,if_pos (by omega)];exact P2.out)) (Nat.lt_of_lt_of_le lt0 hbz.size) (fun e=>Nat.lt_irrefl _ (HF.out _ e)) ((hbz.cell (p:=⟨w2.heap.size,0,none⟩) lt1).trans (by rw [qa,if_pos (by first | (simp;done) | (simp;omega))];rw [qa];simp)) (Nat.lt_of_lt_of_le lt1 hbz.size) (fun e=>by have:=HF.out _ e;omega) ((hbz.cell (p:=⟨w2.heap.size+1,0,none⟩) lt2).trans (by rw [qa];simp)) (Nat.lt_of_lt_of_le lt2 hbz.size) (fun e=>by have:=HF.out _ e;omega)
theorem asks_lose_no0 (s:ByteArray) (hs:s=ByteArray.mk #[108,111,115,101])   (hx0:pNum L (k)=none):AskR none S s L k:=by
 refine ⟨fun _ _ _ h=>(by cases h),fun w d f b A n c g hD h=>?_⟩
 have hbl:=h.lt
 have h10:=h.2.2.2.2.1
 have q_node:(s.toList == [110,111,100,101])=false:=lit_of hs
 have q_start:(s.toList == [115,116,97,114,116])=false:=lit_of hs
 have q_way:(s.toList == [119,97,121])=false:=lit_of hs
 have q_tick:(s.toList == [116,105,99,107])=false:=lit_of hs
 have q_bring:(s.toList == [98,114,105,110,103])=false:=lit_of hs
 have q_lose:(s.toList == [108,111,115,101])=true:=lit_of hs
 have hmf:=mkfun
 have qa:=alloc_cells
 have qf:=alloc_frozens
 have HF:=Lib.hid (fun x (hx:f x)=>(hD.lt x hx).2)
 have hba:Below w.heap.size w (w.alloc (.cells #[.pointer (some ⟨d,0,none⟩)] 33)):=(Below.refl _ _).alloc (Nat.le_refl _) _
 have HG:=Lib.hid (fun w' (hg:Got b w w')=>g.grown hg h10)
 have H0:=Lib.hid (h.below hba)
 have G0:=Lib.hid (Got.of (Got.refl b w) hba)
 have hzz:w.heap.size<(w.alloc (.cells #[.pointer (some ⟨d,0,none⟩)] 33)).heap.size:=by simp
 have P0:=Lib.hid (show (w.alloc (.cells #[.pointer (some ⟨d,0,none⟩)] 33)).cell? ⟨w.heap.size,0,none⟩=some (.pointer (some ⟨d,0,none⟩)) by simp [alloc_cells])
 have N0:=Lib.hid (fun w' (g:GOK w') (h:WSt w' b A n c L k)=>wnum_no g h hx0)
 clear hs g h hD hba hx0
 go_enter Tryz.func29,Tryz.ntmps29
 go_wp2_with fail
 refine (N0.out _ (HG.out _ G0.out) H0.out).mono ?_
 rintro e w1 ⟨rfl,hg1⟩
 exact ⟨rfl,rfl,grown_trans G0.out hg1⟩
theorem asks_lose (ok:DOK S) (s:ByteArray) (hs:s=ByteArray.mk #[108,111,115,101]) {v0:Int} (hx0:pNum L (k)=some v0):∃ R,AskR R S s L k:=by
 obtain ⟨o,S',ho,hok,H⟩:=close_ex S ok v0 (pNum_nonneg hx0)
 refine ⟨some (o,S',k+1),fun _ _ _ e=>(by cases e;exact ⟨ho,hok⟩),fun w d f b A n c g hD h=>?_⟩
 have hbl:=h.lt
 have h10:=h.2.2.2.2.1
 have q_node:(s.toList == [110,111,100,101])=false:=lit_of hs
 have q_start:(s.toList == [115,116,97,114,116])=false:=lit_of hs
 have q_way:(s.toList == [119,97,121])=false:=lit_of hs
 have q_tick:(s.toList == [116,105,99,107])=false:=lit_of hs
 have q_bring:(s.toList == [98,114,105,110,103])=false:=lit_of hs
 have q_lose:(s.toList == [108,111,115,101])=true:=lit_of hs
 have hmf:=mkfun
 have qa:=alloc_cells
 have qf:=alloc_frozens
 have HF:=Lib.hid (fun x (hx:f x)=>(hD.lt x hx).2)
 have hba:Below w.heap.size w (w.alloc (.cells #[.pointer (some ⟨d,0,none⟩)] 33)):=(Below.refl _ _).alloc (Nat.le_refl _) _
 have HG:=Lib.hid (fun w' (hg:Got b w w')=>g.grown hg h10)
 have H0:=Lib.hid (h.below hba)
 have G0:=Lib.hid (Got.of (Got.refl b w) hba)
 have hzz:w.heap.size<(w.alloc (.cells #[.pointer (some ⟨d,0,none⟩)] 33)).heap.size:=by simp
 have P0:=Lib.hid (show (w.alloc (.cells #[.pointer (some ⟨d,0,none⟩)] 33)).cell? ⟨w.heap.size,0,none⟩=some (.pointer (some ⟨d,0,none⟩)) by simp [alloc_cells])
 have HH:=Lib.hid H
 have N0:=Lib.hid (fun w' (g:GOK w') (h:WSt w' b A n c L k)=>wnum_ok g h hx0)
 clear hs g h hD hba ho hok H hx0
 go_enter Tryz.func29,Tryz.ntmps29
 go_wp2_with fail
 refine (N0.out _ (HG.out _ G0.out) H0.out).mono ?_
 rintro e w1 ⟨rfl,h1,hg1⟩
 have P1:=Lib.hid ((Got.cells hg1 (x:=w.heap.size) (o:=0) (by simp) (by omega)).1.trans P0.out)
 have hz1:=hg1.size
 have G1:=Lib.hid (grown_trans G0.out hg1)
 have H1:=Lib.hid h1
 clear h1 hg1
 go_wp2_with fail
 have hbb:Below w1.heap.size w1 (w1.alloc (.cells #[.int .i64 v0] 3)):=((Below.refl _ _).alloc (Nat.le_refl _) _)
 have HK:=Lib.hid (⟨H1.out.below hbb,Got.of G1.out hbb⟩:_∧_)
 clear hbb
 refine bodyPost_ret (v:=.func (.func 86) #[] #[.pointer (some ⟨w.heap.size,0,none⟩),.pointer (some ⟨w1.heap.size,0,none⟩)]) (by simp [results,Tryz.results29,go_sem]) rfl ?_
 obtain ⟨hws,hgot⟩:=HK.out
 refine ⟨_,rfl,⟨_,_,rfl,enters_of Tryz.func86 (by kernel_rfl) rfl,fun wz hbz gz hDz=>?_⟩,hws,hgot⟩
 have lt0:w.heap.size<(w1.alloc (.cells #[.int .i64 v0] 3)).heap.size:=by first | (simp;done) | (simp;omega)
 have lt1:w1.heap.size<(w1.alloc (.cells #[.int .i64 v0] 3)).heap.size:=by first | (simp;done) | (simp;omega)
 exact HH.out wz d f w.heap.size (w1.heap.size) gz hDz ((hbz.cell (p:=⟨w.heap.size,0,none⟩) lt0).trans (by rw [qa,if_pos (by omega)];exact P1.out)) (Nat.lt_of_lt_of_le lt0 hbz.size) (fun e=>Nat.lt_irrefl _ (HF.out _ e)) ((hbz.cell (p:=⟨w1.heap.size,0,none⟩) lt1).trans (by rw [qa];simp)) (Nat.lt_of_lt_of_le lt1 hbz.size) (fun e=>by have:=HF.out _ e;omega)
theorem asks_stop_no0 (s:ByteArray) (hs:s=ByteArray.mk #[115,116,111,112])   (hx0:pNum L (k)=none):AskR none S s L k:=by
 refine ⟨fun _ _ _ h=>(by cases h),fun w d f b A n c g hD h=>?_⟩
 have hbl:=h.lt
 have h10:=h.2.2.2.2.1
 have q_node:(s.toList == [110,111,100,101])=false:=lit_of hs
 have q_start:(s.toList == [115,116,97,114,116])=false:=lit_of hs
 have q_way:(s.toList == [119,97,121])=false:=lit_of hs
 have q_tick:(s.toList == [116,105,99,107])=false:=lit_of hs
 have q_bring:(s.toList == [98,114,105,110,103])=false:=lit_of hs
 have q_lose:(s.toList == [108,111,115,101])=false:=lit_of hs
 have q_stop:(s.toList == [115,116,111,112])=true:=lit_of hs
 have hmf:=mkfun
 have qa:=alloc_cells
 have qf:=alloc_frozens
 have HF:=Lib.hid (fun x (hx:f x)=>(hD.lt x hx).2)
 have hba:Below w.heap.size w (w.alloc (.cells #[.pointer (some ⟨d,0,none⟩)] 33)):=(Below.refl _ _).alloc (Nat.le_refl _) _
 have HG:=Lib.hid (fun w' (hg:Got b w w')=>g.grown hg h10)
 have H0:=Lib.hid (h.below hba)
 have G0:=Lib.hid (Got.of (Got.refl b w) hba)
 have hzz:w.heap.size<(w.alloc (.cells #[.pointer (some ⟨d,0,none⟩)] 33)).heap.size:=by simp
 have P0:=Lib.hid (show (w.alloc (.cells #[.pointer (some ⟨d,0,none⟩)] 33)).cell? ⟨w.heap.size,0,none⟩=some (.pointer (some ⟨d,0,none⟩)) by simp [alloc_cells])
 have N0:=Lib.hid (fun w' (g:GOK w') (h:WSt w' b A n c L k)=>wnum_no g h hx0)
 clear hs g h hD hba hx0
 go_enter Tryz.func29,Tryz.ntmps29
 go_wp2_with fail
 refine (N0.out _ (HG.out _ G0.out) H0.out).mono ?_
 rintro e w1 ⟨rfl,hg1⟩
 exact ⟨rfl,rfl,grown_trans G0.out hg1⟩
theorem asks_stop (ok:DOK S) (s:ByteArray) (hs:s=ByteArray.mk #[115,116,111,112]) {v0:Int} (hx0:pNum L (k)=some v0):∃ R,AskR R S s L k:=by
 obtain ⟨o,S',ho,hok,H⟩:=cstop_ex S ok v0 (pNum_nonneg hx0)
 refine ⟨some (o,S',k+1),fun _ _ _ e=>(by cases e;exact ⟨ho,hok⟩),fun w d f b A n c g hD h=>?_⟩
 have hbl:=h.lt
 have h10:=h.2.2.2.2.1
 have q_node:(s.toList == [110,111,100,101])=false:=lit_of hs
 have q_start:(s.toList == [115,116,97,114,116])=false:=lit_of hs
 have q_way:(s.toList == [119,97,121])=false:=lit_of hs
 have q_tick:(s.toList == [116,105,99,107])=false:=lit_of hs
 have q_bring:(s.toList == [98,114,105,110,103])=false:=lit_of hs
 have q_lose:(s.toList == [108,111,115,101])=false:=lit_of hs
 have q_stop:(s.toList == [115,116,111,112])=true:=lit_of hs
 have hmf:=mkfun
 have qa:=alloc_cells
 have qf:=alloc_frozens
 have HF:=Lib.hid (fun x (hx:f x)=>(hD.lt x hx).2)
 have hba:Below w.heap.size w (w.alloc (.cells #[.pointer (some ⟨d,0,none⟩)] 33)):=(Below.refl _ _).alloc (Nat.le_refl _) _
 have HG:=Lib.hid (fun w' (hg:Got b w w')=>g.grown hg h10)
 have H0:=Lib.hid (h.below hba)
 have G0:=Lib.hid (Got.of (Got.refl b w) hba)
 have hzz:w.heap.size<(w.alloc (.cells #[.pointer (some ⟨d,0,none⟩)] 33)).heap.size:=by simp
 have P0:=Lib.hid (show (w.alloc (.cells #[.pointer (some ⟨d,0,none⟩)] 33)).cell? ⟨w.heap.size,0,none⟩=some (.pointer (some ⟨d,0,none⟩)) by simp [alloc_cells])
 have HH:=Lib.hid H
 have N0:=Lib.hid (fun w' (g:GOK w') (h:WSt w' b A n c L k)=>wnum_ok g h hx0)
 clear hs g h hD hba ho hok H hx0
 go_enter Tryz.func29,Tryz.ntmps29
 go_wp2_with fail
 refine (N0.out _ (HG.out _ G0.out) H0.out).mono ?_
 rintro e w1 ⟨rfl,h1,hg1⟩
 have P1:=Lib.hid ((Got.cells hg1 (x:=w.heap.size) (o:=0) (by simp) (by omega)).1.trans P0.out)
 have hz1:=hg1.size
 have G1:=Lib.hid (grown_trans G0.out hg1)
 have H1:=Lib.hid h1
 clear h1 hg1
 go_wp2_with fail
 have hbb:Below w1.heap.size w1 (w1.alloc (.cells #[.int .i64 v0] 3)):=((Below.refl _ _).alloc (Nat.le_refl _) _)
 have HK:=Lib.hid (⟨H1.out.below hbb,Got.of G1.out hbb⟩:_∧_)
 clear hbb
 refine bodyPost_ret (v:=.func (.func 88) #[] #[.pointer (some ⟨w.heap.size,0,none⟩),.pointer (some ⟨w1.heap.size,0,none⟩)]) (by simp [results,Tryz.results29,go_sem]) rfl ?_
 obtain ⟨hws,hgot⟩:=HK.out
 refine ⟨_,rfl,⟨_,_,rfl,enters_of Tryz.func88 (by kernel_rfl) rfl,fun wz hbz gz hDz=>?_⟩,hws,hgot⟩
 have lt0:w.heap.size<(w1.alloc (.cells #[.int .i64 v0] 3)).heap.size:=by first | (simp;done) | (simp;omega)
 have lt1:w1.heap.size<(w1.alloc (.cells #[.int .i64 v0] 3)).heap.size:=by first | (simp;done) | (simp;omega)
 exact HH.out wz d f w.heap.size (w1.heap.size) gz hDz ((hbz.cell (p:=⟨w.heap.size,0,none⟩) lt0).trans (by rw [qa,if_pos (by omega)];exact P1.out)) (Nat.lt_of_lt_of_le lt0 hbz.size) (fun e=>Nat.lt_irrefl _ (HF.out _ e)) ((hbz.cell (p:=⟨w1.heap.size,0,none⟩) lt1).trans (by rw [qa];simp)) (Nat.lt_of_lt_of_le lt1 hbz.size) (fun e=>by have:=HF.out _ e;omega)
theorem asks_ask_no0 (s:ByteArray) (hs:s=ByteArray.mk #[97,115,107])   (hx0:pNum L (k)=none):AskR none S s L k:=by
 refine ⟨fun _ _ _ h=>(by cases h),fun w d f b A n c g hD h=>?_⟩
 have hbl:=h.lt
 have h10:=h.2.2.2.2.1
 have q_node:(s.toList == [110,111,100,101])=false:=lit_of hs
 have q_start:(s.toList == [115,116,97,114,116])=false:=lit_of hs
 have q_way:(s.toList == [119,97,121])=false:=lit_of hs
 have q_tick:(s.toList == [116,105,99,107])=false:=lit_of hs
 have q_bring:(s.toList == [98,114,105,110,103])=false:=lit_of hs
 have q_lose:(s.toList == [108,111,115,101])=false:=lit_of hs
 have q_stop:(s.toList == [115,116,111,112])=false:=lit_of hs
 have q_ask:(s.toList == [97,115,107])=true:=lit_of hs
 have hmf:=mkfun
 have qa:=alloc_cells
 have qf:=alloc_frozens
 have HF:=Lib.hid (fun x (hx:f x)=>(hD.lt x hx).2)
 have hba:Below w.heap.size w (w.alloc (.cells #[.pointer (some ⟨d,0,none⟩)] 33)):=(Below.refl _ _).alloc (Nat.le_refl _) _
 have HG:=Lib.hid (fun w' (hg:Got b w w')=>g.grown hg h10)
 have H0:=Lib.hid (h.below hba)
 have G0:=Lib.hid (Got.of (Got.refl b w) hba)
 have hzz:w.heap.size<(w.alloc (.cells #[.pointer (some ⟨d,0,none⟩)] 33)).heap.size:=by simp
 have P0:=Lib.hid (show (w.alloc (.cells #[.pointer (some ⟨d,0,none⟩)] 33)).cell? ⟨w.heap.size,0,none⟩=some (.pointer (some ⟨d,0,none⟩)) by simp [alloc_cells])
 have N0:=Lib.hid (fun w' (g:GOK w') (h:WSt w' b A n c L k)=>wnum_no g h hx0)
 clear hs g h hD hba hx0
 go_enter Tryz.func29,Tryz.ntmps29
 go_wp2_with fail
 refine (N0.out _ (HG.out _ G0.out) H0.out).mono ?_
 rintro e w1 ⟨rfl,hg1⟩
 exact ⟨rfl,rfl,grown_trans G0.out hg1⟩
theorem asks_ask_no1 (s:ByteArray) (hs:s=ByteArray.mk #[97,115,107]) {v0:Int} (hx0:pNum L (k)=some v0) (hx1:pNext L (k+1)=none):AskR none S s L k:=by
 refine ⟨fun _ _ _ h=>(by cases h),fun w d f b A n c g hD h=>?_⟩
 have hbl:=h.lt
 have h10:=h.2.2.2.2.1
 have q_node:(s.toList == [110,111,100,101])=false:=lit_of hs
 have q_start:(s.toList == [115,116,97,114,116])=false:=lit_of hs
 have q_way:(s.toList == [119,97,121])=false:=lit_of hs
 have q_tick:(s.toList == [116,105,99,107])=false:=lit_of hs
 have q_bring:(s.toList == [98,114,105,110,103])=false:=lit_of hs
 have q_lose:(s.toList == [108,111,115,101])=false:=lit_of hs
 have q_stop:(s.toList == [115,116,111,112])=false:=lit_of hs
 have q_ask:(s.toList == [97,115,107])=true:=lit_of hs
 have hmf:=mkfun
 have qa:=alloc_cells
 have qf:=alloc_frozens
 have HF:=Lib.hid (fun x (hx:f x)=>(hD.lt x hx).2)
 have hba:Below w.heap.size w (w.alloc (.cells #[.pointer (some ⟨d,0,none⟩)] 33)):=(Below.refl _ _).alloc (Nat.le_refl _) _
 have HG:=Lib.hid (fun w' (hg:Got b w w')=>g.grown hg h10)
 have H0:=Lib.hid (h.below hba)
 have G0:=Lib.hid (Got.of (Got.refl b w) hba)
 have hzz:w.heap.size<(w.alloc (.cells #[.pointer (some ⟨d,0,none⟩)] 33)).heap.size:=by simp
 have P0:=Lib.hid (show (w.alloc (.cells #[.pointer (some ⟨d,0,none⟩)] 33)).cell? ⟨w.heap.size,0,none⟩=some (.pointer (some ⟨d,0,none⟩)) by simp [alloc_cells])
 have N0:=Lib.hid (fun w' (g:GOK w') (h:WSt w' b A n c L k)=>wnum_ok g h hx0)
 have N1:=Lib.hid (fun w' (h:WSt w' b A n c L (k+1))=>wnextP_no h hx1)
 clear hs g h hD hba hx0 hx1
 go_enter Tryz.func29,Tryz.ntmps29
 go_wp2_with fail
 refine (N0.out _ (HG.out _ G0.out) H0.out).mono ?_
 rintro e w1 ⟨rfl,h1,hg1⟩
 have P1:=Lib.hid ((Got.cells hg1 (x:=w.heap.size) (o:=0) (by simp) (by omega)).1.trans P0.out)
 have hz1:=hg1.size
 have G1:=Lib.hid (grown_trans G0.out hg1)
 have H1:=Lib.hid h1
 clear h1 hg1
 go_wp2_with fail
 refine (N1.out _ H1.out).mono ?_
 rintro e w2 ⟨rfl,hg2⟩
 exact ⟨rfl,rfl,grown_trans G1.out hg2⟩
theorem asks_ask (ok:DOK S) (s:ByteArray) (hs:s=ByteArray.mk #[97,115,107]) {v0:Int} {v1:ByteArray} (hx0:pNum L (k)=some v0) (hx1:pNext L (k+1)=some v1):∃ R,AskR R S s L k:=by
 obtain ⟨o,S',ho,hok,H⟩:=cask_ex S ok v0 v1 (pNum_nonneg hx0)
 refine ⟨some (o,S',k+2),fun _ _ _ e=>(by cases e;exact ⟨ho,hok⟩),fun w d f b A n c g hD h=>?_⟩
 have hbl:=h.lt
 have h10:=h.2.2.2.2.1
 have q_node:(s.toList == [110,111,100,101])=false:=lit_of hs
 have q_start:(s.toList == [115,116,97,114,116])=false:=lit_of hs
 have q_way:(s.toList == [119,97,121])=false:=lit_of hs
 have q_tick:(s.toList == [116,105,99,107])=false:=lit_of hs
 have q_bring:(s.toList == [98,114,105,110,103])=false:=lit_of hs
 have q_lose:(s.toList == [108,111,115,101])=false:=lit_of hs
 have q_stop:(s.toList == [115,116,111,112])=false:=lit_of hs
 have q_ask:(s.toList == [97,115,107])=true:=lit_of hs
 have hmf:=mkfun
 have qa:=alloc_cells
 have qf:=alloc_frozens
 have HF:=Lib.hid (fun x (hx:f x)=>(hD.lt x hx).2)
 have hba:Below w.heap.size w (w.alloc (.cells #[.pointer (some ⟨d,0,none⟩)] 33)):=(Below.refl _ _).alloc (Nat.le_refl _) _
 have HG:=Lib.hid (fun w' (hg:Got b w w')=>g.grown hg h10)
 have H0:=Lib.hid (h.below hba)
 have G0:=Lib.hid (Got.of (Got.refl b w) hba)
 have hzz:w.heap.size<(w.alloc (.cells #[.pointer (some ⟨d,0,none⟩)] 33)).heap.size:=by simp
 have P0:=Lib.hid (show (w.alloc (.cells #[.pointer (some ⟨d,0,none⟩)] 33)).cell? ⟨w.heap.size,0,none⟩=some (.pointer (some ⟨d,0,none⟩)) by simp [alloc_cells])
 have HH:=Lib.hid H
 have N0:=Lib.hid (fun w' (g:GOK w') (h:WSt w' b A n c L k)=>wnum_ok g h hx0)
 have N1:=Lib.hid (fun w' (h:WSt w' b A n c L (k+1))=>wnextP_ok h hx1)
 clear hs g h hD hba ho hok H hx0 hx1
 go_enter Tryz.func29,Tryz.ntmps29
 go_wp2_with fail
 refine (N0.out _ (HG.out _ G0.out) H0.out).mono ?_
 rintro e w1 ⟨rfl,h1,hg1⟩
 have P1:=Lib.hid ((Got.cells hg1 (x:=w.heap.size) (o:=0) (by simp) (by omega)).1.trans P0.out)
 have hz1:=hg1.size
 have G1:=Lib.hid (grown_trans G0.out hg1)
 have H1:=Lib.hid h1
 clear h1 hg1
 go_wp2_with fail
 refine (N1.out _ H1.out).mono ?_
 rintro e w2 ⟨rfl,h2,hg2⟩
 have P2:=Lib.hid ((Got.cells hg2 (x:=w.heap.size) (o:=0) (by omega) (by omega)).1.trans P1.out)
 have hz2:=hg2.size
 have G2:=Lib.hid (grown_trans G1.out hg2)
 have H2:=Lib.hid h2
 clear h2 hg2
 go_wp2_with fail
 have hbb:Below w2.heap.size w2 (((w2.alloc (.cells #[.int .i64 v0] 3))).alloc (.cells #[.string v1] 9)):=(((Below.refl _ _).alloc (Nat.le_refl _) _).alloc (by first | (simp;done) | (simp;omega)) _)
 have HK:=Lib.hid (⟨H2.out.below hbb,Got.of G2.out hbb⟩:_∧_)
 clear hbb
 refine bodyPost_ret (v:=.func (.func 90) #[] #[.pointer (some ⟨w.heap.size,0,none⟩),.pointer (some ⟨w2.heap.size,0,none⟩),.pointer (some ⟨w2.heap.size+1,0,none⟩)]) (by simp [results,Tryz.results29,go_sem]) rfl ?_
 obtain ⟨hws,hgot⟩:=HK.out
 refine ⟨_,rfl,⟨_,_,rfl,enters_of Tryz.func90 (by kernel_rfl) rfl,fun wz hbz gz hDz=>?_⟩,hws,hgot⟩
 have lt0:w.heap.size<(((w2.alloc (.cells #[.int .i64 v0] 3))).alloc (.cells #[.string v1] 9)).heap.size:=by first | (simp;done) | (simp;omega)
 have lt1:w2.heap.size<(((w2.alloc (.cells #[.int .i64 v0] 3))).alloc (.cells #[.string v1] 9)).heap.size:=by first | (simp;done) | (simp;omega)
 have lt2:w2.heap.size+1<(((w2.alloc (.cells #[.int .i64 v0] 3))).alloc (.cells #[.string v1] 9)).heap.size:=by first | (simp;done) | (simp;omega)
 exact HH.out wz d f w.heap.size (w2.heap.size) (w2.heap.size+1) gz hDz ((hbz.cell (p:=⟨w.heap.size,0,none⟩) lt0).trans (by rw [qa,if_pos (by first | (simp;done) | (simp;omega))];rw [qa,if_pos (by omega)];exact P2.out)) (Nat.lt_of_lt_of_le lt0 hbz.size) (fun e=>Nat.lt_irrefl _ (HF.out _ e)) ((hbz.cell (p:=⟨w2.heap.size,0,none⟩) lt1).trans (by rw [qa,if_pos (by first | (simp;done) | (simp;omega))];rw [qa];simp)) (Nat.lt_of_lt_of_le lt1 hbz.size) (fun e=>by have:=HF.out _ e;omega) ((hbz.cell (p:=⟨w2.heap.size+1,0,none⟩) lt2).trans (by rw [qa];simp)) (Nat.lt_of_lt_of_le lt2 hbz.size) (fun e=>by have:=HF.out _ e;omega)
theorem asks_join_no0 (s:ByteArray) (hs:s=ByteArray.mk #[106,111,105,110])   (hx0:pNum L (k)=none):AskR none S s L k:=by
 refine ⟨fun _ _ _ h=>(by cases h),fun w d f b A n c g hD h=>?_⟩
 have hbl:=h.lt
 have h10:=h.2.2.2.2.1
 have q_node:(s.toList == [110,111,100,101])=false:=lit_of hs
 have q_start:(s.toList == [115,116,97,114,116])=false:=lit_of hs
 have q_way:(s.toList == [119,97,121])=false:=lit_of hs
 have q_tick:(s.toList == [116,105,99,107])=false:=lit_of hs
 have q_bring:(s.toList == [98,114,105,110,103])=false:=lit_of hs
 have q_lose:(s.toList == [108,111,115,101])=false:=lit_of hs
 have q_stop:(s.toList == [115,116,111,112])=false:=lit_of hs
 have q_ask:(s.toList == [97,115,107])=false:=lit_of hs
 have q_join:(s.toList == [106,111,105,110])=true:=lit_of hs
 have hmf:=mkfun
 have qa:=alloc_cells
 have qf:=alloc_frozens
 have HF:=Lib.hid (fun x (hx:f x)=>(hD.lt x hx).2)
 have hba:Below w.heap.size w (w.alloc (.cells #[.pointer (some ⟨d,0,none⟩)] 33)):=(Below.refl _ _).alloc (Nat.le_refl _) _
 have HG:=Lib.hid (fun w' (hg:Got b w w')=>g.grown hg h10)
 have H0:=Lib.hid (h.below hba)
 have G0:=Lib.hid (Got.of (Got.refl b w) hba)
 have hzz:w.heap.size<(w.alloc (.cells #[.pointer (some ⟨d,0,none⟩)] 33)).heap.size:=by simp
 have P0:=Lib.hid (show (w.alloc (.cells #[.pointer (some ⟨d,0,none⟩)] 33)).cell? ⟨w.heap.size,0,none⟩=some (.pointer (some ⟨d,0,none⟩)) by simp [alloc_cells])
 have N0:=Lib.hid (fun w' (g:GOK w') (h:WSt w' b A n c L k)=>wnum_no g h hx0)
 clear hs g h hD hba hx0
 go_enter Tryz.func29,Tryz.ntmps29
 go_wp2_with fail
 refine (N0.out _ (HG.out _ G0.out) H0.out).mono ?_
 rintro e w1 ⟨rfl,hg1⟩
 exact ⟨rfl,rfl,grown_trans G0.out hg1⟩
theorem asks_join_no1 (s:ByteArray) (hs:s=ByteArray.mk #[106,111,105,110]) {v0:Int} (hx0:pNum L (k)=some v0) (hx1:pNext L (k+1)=none):AskR none S s L k:=by
 refine ⟨fun _ _ _ h=>(by cases h),fun w d f b A n c g hD h=>?_⟩
 have hbl:=h.lt
 have h10:=h.2.2.2.2.1
 have q_node:(s.toList == [110,111,100,101])=false:=lit_of hs
 have q_start:(s.toList == [115,116,97,114,116])=false:=lit_of hs
 have q_way:(s.toList == [119,97,121])=false:=lit_of hs
 have q_tick:(s.toList == [116,105,99,107])=false:=lit_of hs
 have q_bring:(s.toList == [98,114,105,110,103])=false:=lit_of hs
 have q_lose:(s.toList == [108,111,115,101])=false:=lit_of hs
 have q_stop:(s.toList == [115,116,111,112])=false:=lit_of hs
 have q_ask:(s.toList == [97,115,107])=false:=lit_of hs
 have q_join:(s.toList == [106,111,105,110])=true:=lit_of hs
 have hmf:=mkfun
 have qa:=alloc_cells
 have qf:=alloc_frozens
 have HF:=Lib.hid (fun x (hx:f x)=>(hD.lt x hx).2)
 have hba:Below w.heap.size w (w.alloc (.cells #[.pointer (some ⟨d,0,none⟩)] 33)):=(Below.refl _ _).alloc (Nat.le_refl _) _
 have HG:=Lib.hid (fun w' (hg:Got b w w')=>g.grown hg h10)
 have H0:=Lib.hid (h.below hba)
 have G0:=Lib.hid (Got.of (Got.refl b w) hba)
 have hzz:w.heap.size<(w.alloc (.cells #[.pointer (some ⟨d,0,none⟩)] 33)).heap.size:=by simp
 have P0:=Lib.hid (show (w.alloc (.cells #[.pointer (some ⟨d,0,none⟩)] 33)).cell? ⟨w.heap.size,0,none⟩=some (.pointer (some ⟨d,0,none⟩)) by simp [alloc_cells])
 have N0:=Lib.hid (fun w' (g:GOK w') (h:WSt w' b A n c L k)=>wnum_ok g h hx0)
 have N1:=Lib.hid (fun w' (h:WSt w' b A n c L (k+1))=>wnextP_no h hx1)
 clear hs g h hD hba hx0 hx1
 go_enter Tryz.func29,Tryz.ntmps29
 go_wp2_with fail
 refine (N0.out _ (HG.out _ G0.out) H0.out).mono ?_
 rintro e w1 ⟨rfl,h1,hg1⟩
 have P1:=Lib.hid ((Got.cells hg1 (x:=w.heap.size) (o:=0) (by simp) (by omega)).1.trans P0.out)
 have hz1:=hg1.size
 have G1:=Lib.hid (grown_trans G0.out hg1)
 have H1:=Lib.hid h1
 clear h1 hg1
 go_wp2_with fail
 refine (N1.out _ H1.out).mono ?_
 rintro e w2 ⟨rfl,hg2⟩
 exact ⟨rfl,rfl,grown_trans G1.out hg2⟩
theorem asks_join_no2 (s:ByteArray) (hs:s=ByteArray.mk #[106,111,105,110]) {v0:Int} {v1:ByteArray} (hx0:pNum L (k)=some v0) (hx1:pNext L (k+1)=some v1) (hx2:pNum L (k+2)=none):AskR none S s L k:=by
 refine ⟨fun _ _ _ h=>(by cases h),fun w d f b A n c g hD h=>?_⟩
 have hbl:=h.lt
 have h10:=h.2.2.2.2.1
 have q_node:(s.toList == [110,111,100,101])=false:=lit_of hs
 have q_start:(s.toList == [115,116,97,114,116])=false:=lit_of hs
 have q_way:(s.toList == [119,97,121])=false:=lit_of hs
 have q_tick:(s.toList == [116,105,99,107])=false:=lit_of hs
 have q_bring:(s.toList == [98,114,105,110,103])=false:=lit_of hs
 have q_lose:(s.toList == [108,111,115,101])=false:=lit_of hs
 have q_stop:(s.toList == [115,116,111,112])=false:=lit_of hs
 have q_ask:(s.toList == [97,115,107])=false:=lit_of hs
 have q_join:(s.toList == [106,111,105,110])=true:=lit_of hs
 have hmf:=mkfun
 have qa:=alloc_cells
 have qf:=alloc_frozens
 have HF:=Lib.hid (fun x (hx:f x)=>(hD.lt x hx).2)
 have hba:Below w.heap.size w (w.alloc (.cells #[.pointer (some ⟨d,0,none⟩)] 33)):=(Below.refl _ _).alloc (Nat.le_refl _) _
 have HG:=Lib.hid (fun w' (hg:Got b w w')=>g.grown hg h10)
 have H0:=Lib.hid (h.below hba)
 have G0:=Lib.hid (Got.of (Got.refl b w) hba)
 have hzz:w.heap.size<(w.alloc (.cells #[.pointer (some ⟨d,0,none⟩)] 33)).heap.size:=by simp
 have P0:=Lib.hid (show (w.alloc (.cells #[.pointer (some ⟨d,0,none⟩)] 33)).cell? ⟨w.heap.size,0,none⟩=some (.pointer (some ⟨d,0,none⟩)) by simp [alloc_cells])
 have N0:=Lib.hid (fun w' (g:GOK w') (h:WSt w' b A n c L k)=>wnum_ok g h hx0)
 have N1:=Lib.hid (fun w' (h:WSt w' b A n c L (k+1))=>wnextP_ok h hx1)
 have N2:=Lib.hid (fun w' (g:GOK w') (h:WSt w' b A n c L (k+2))=>wnum_no g h hx2)
 clear hs g h hD hba hx0 hx1 hx2
 go_enter Tryz.func29,Tryz.ntmps29
 go_wp2_with fail
 refine (N0.out _ (HG.out _ G0.out) H0.out).mono ?_
 rintro e w1 ⟨rfl,h1,hg1⟩
 have P1:=Lib.hid ((Got.cells hg1 (x:=w.heap.size) (o:=0) (by simp) (by omega)).1.trans P0.out)
 have hz1:=hg1.size
 have G1:=Lib.hid (grown_trans G0.out hg1)
 have H1:=Lib.hid h1
 clear h1 hg1
 go_wp2_with fail
 refine (N1.out _ H1.out).mono ?_
 rintro e w2 ⟨rfl,h2,hg2⟩
 have P2:=Lib.hid ((Got.cells hg2 (x:=w.heap.size) (o:=0) (by omega) (by omega)).1.trans P1.out)
 have hz2:=hg2.size
 have G2:=Lib.hid (grown_trans G1.out hg2)
 have H2:=Lib.hid h2
 clear h2 hg2
 go_wp2_with fail
 refine (N2.out _ (HG.out _ G2.out) H2.out).mono ?_
 rintro e w3 ⟨rfl,hg3⟩
 exact ⟨rfl,rfl,grown_trans G2.out hg3⟩
theorem asks_join (ok:DOK S) (s:ByteArray) (hs:s=ByteArray.mk #[106,111,105,110]) {v0:Int} {v1:ByteArray} {v2:Int} (hx0:pNum L (k)=some v0) (hx1:pNext L (k+1)=some v1) (hx2:pNum L (k+2)=some v2):∃ R,AskR R S s L k:=by
 obtain ⟨o,S',ho,hok,H⟩:=cjoin_ex S ok v0 v1 v2 (pNum_nonneg hx0)
 refine ⟨some (o,S',k+3),fun _ _ _ e=>(by cases e;exact ⟨ho,hok⟩),fun w d f b A n c g hD h=>?_⟩
 have hbl:=h.lt
 have h10:=h.2.2.2.2.1
 have q_node:(s.toList == [110,111,100,101])=false:=lit_of hs
 have q_start:(s.toList == [115,116,97,114,116])=false:=lit_of hs
 have q_way:(s.toList == [119,97,121])=false:=lit_of hs
 have q_tick:(s.toList == [116,105,99,107])=false:=lit_of hs
 have q_bring:(s.toList == [98,114,105,110,103])=false:=lit_of hs
 have q_lose:(s.toList == [108,111,115,101])=false:=lit_of hs
 have q_stop:(s.toList == [115,116,111,112])=false:=lit_of hs
 have q_ask:(s.toList == [97,115,107])=false:=lit_of hs
 have q_join:(s.toList == [106,111,105,110])=true:=lit_of hs
 have hmf:=mkfun
 have qa:=alloc_cells
 have qf:=alloc_frozens
 have HF:=Lib.hid (fun x (hx:f x)=>(hD.lt x hx).2)
 have hba:Below w.heap.size w (w.alloc (.cells #[.pointer (some ⟨d,0,none⟩)] 33)):=(Below.refl _ _).alloc (Nat.le_refl _) _
 have HG:=Lib.hid (fun w' (hg:Got b w w')=>g.grown hg h10)
 have H0:=Lib.hid (h.below hba)
 have G0:=Lib.hid (Got.of (Got.refl b w) hba)
 have hzz:w.heap.size<(w.alloc (.cells #[.pointer (some ⟨d,0,none⟩)] 33)).heap.size:=by simp
 have P0:=Lib.hid (show (w.alloc (.cells #[.pointer (some ⟨d,0,none⟩)] 33)).cell? ⟨w.heap.size,0,none⟩=some (.pointer (some ⟨d,0,none⟩)) by simp [alloc_cells])
 have HH:=Lib.hid H
 have N0:=Lib.hid (fun w' (g:GOK w') (h:WSt w' b A n c L k)=>wnum_ok g h hx0)
 have N1:=Lib.hid (fun w' (h:WSt w' b A n c L (k+1))=>wnextP_ok h hx1)
 have N2:=Lib.hid (fun w' (g:GOK w') (h:WSt w' b A n c L (k+2))=>wnum_ok g h hx2)
 clear hs g h hD hba ho hok H hx0 hx1 hx2
 go_enter Tryz.func29,Tryz.ntmps29
 go_wp2_with fail
 refine (N0.out _ (HG.out _ G0.out) H0.out).mono ?_
 rintro e w1 ⟨rfl,h1,hg1⟩
 have P1:=Lib.hid ((Got.cells hg1 (x:=w.heap.size) (o:=0) (by simp) (by omega)).1.trans P0.out)
 have hz1:=hg1.size
 have G1:=Lib.hid (grown_trans G0.out hg1)
 have H1:=Lib.hid h1
 clear h1 hg1
 go_wp2_with fail
 refine (N1.out _ H1.out).mono ?_
 rintro e w2 ⟨rfl,h2,hg2⟩
 have P2:=Lib.hid ((Got.cells hg2 (x:=w.heap.size) (o:=0) (by omega) (by omega)).1.trans P1.out)
 have hz2:=hg2.size
 have G2:=Lib.hid (grown_trans G1.out hg2)
 have H2:=Lib.hid h2
 clear h2 hg2
 go_wp2_with fail
 refine (N2.out _ (HG.out _ G2.out) H2.out).mono ?_
 rintro e w3 ⟨rfl,h3,hg3⟩
 have P3:=Lib.hid ((Got.cells hg3 (x:=w.heap.size) (o:=0) (by omega) (by omega)).1.trans P2.out)
 have hz3:=hg3.size
 have G3:=Lib.hid (grown_trans G2.out hg3)
 have H3:=Lib.hid h3
 clear h3 hg3
 go_wp2_with fail
 have hbb:Below w3.heap.size w3 (((((w3.alloc (.cells #[.int .i64 v0] 3))).alloc (.cells #[.string v1] 9))).alloc (.cells #[.int .i64 v2] 3)):=((((Below.refl _ _).alloc (Nat.le_refl _) _).alloc (by first | (simp;done) | (simp;omega)) _).alloc (by first | (simp;done) | (simp;omega)) _)
 have HK:=Lib.hid (⟨H3.out.below hbb,Got.of G3.out hbb⟩:_∧_)
 clear hbb
 refine bodyPost_ret (v:=.func (.func 92) #[] #[.pointer (some ⟨w.heap.size,0,none⟩),.pointer (some ⟨w3.heap.size,0,none⟩),.pointer (some ⟨w3.heap.size+1,0,none⟩),.pointer (some ⟨w3.heap.size+2,0,none⟩)]) (by simp [results,Tryz.results29,go_sem]) rfl ?_
 obtain ⟨hws,hgot⟩:=HK.out
 refine ⟨_,rfl,⟨_,_,rfl,enters_of Tryz.func92 (by kernel_rfl) rfl,fun wz hbz gz hDz=>?_⟩,hws,hgot⟩
 have lt0:w.heap.size<(((((w3.alloc (.cells #[.int .i64 v0] 3))).alloc (.cells #[.string v1] 9))).alloc (.cells #[.int .i64 v2] 3)).heap.size:=by first | (simp;done) | (simp;omega)
 have lt1:w3.heap.size<(((((w3.alloc (.cells #[.int .i64 v0] 3))).alloc (.cells #[.string v1] 9))).alloc (.cells #[.int .i64 v2] 3)).heap.size:=by first | (simp;done) | (simp;omega)
 have lt2:w3.heap.size+1<(((((w3.alloc (.cells #[.int .i64 v0] 3))).alloc (.cells #[.string v1] 9))).alloc (.cells #[.int .i64 v2] 3)).heap.size:=by first | (simp;done) | (simp;omega)
 have lt3:w3.heap.size+2<(((((w3.alloc (.cells #[.int .i64 v0] 3))).alloc (.cells #[.string v1] 9))).alloc (.cells #[.int .i64 v2] 3)).heap.size:=by first | (simp;done) | (simp;omega)
 exact HH.out wz d f w.heap.size (w3.heap.size) (w3.heap.size+1) (w3.heap.size+2) gz hDz ((hbz.cell (p:=⟨w.heap.size,0,none⟩) lt0).trans (by rw [qa,if_pos (by first | (simp;done) | (simp;omega))];rw [qa,if_pos (by first | (simp;done) | (simp;omega))];rw [qa,if_pos (by omega)];exact P3.out)) (Nat.lt_of_lt_of_le lt0 hbz.size) (fun e=>Nat.lt_irrefl _ (HF.out _ e)) ((hbz.cell (p:=⟨w3.heap.size,0,none⟩) lt1).trans (by rw [qa,if_pos (by first | (simp;done) | (simp;omega))];rw [qa,if_pos (by first | (simp;done) | (simp;omega))];rw [qa];simp)) (Nat.lt_of_lt_of_le lt1 hbz.size) (fun e=>by have:=HF.out _ e;omega) ((hbz.cell (p:=⟨w3.heap.size+1,0,none⟩) lt2).trans (by rw [qa,if_pos (by first | (simp;done) | (simp;omega))];rw [qa];simp)) (Nat.lt_of_lt_of_le lt2 hbz.size) (fun e=>by have:=HF.out _ e;omega) ((hbz.cell (p:=⟨w3.heap.size+2,0,none⟩) lt3).trans (by rw [qa];simp)) (Nat.lt_of_lt_of_le lt3 hbz.size) (fun e=>by have:=HF.out _ e;omega)
theorem asks_other (s:ByteArray) (n_node:s≠ByteArray.mk #[110,111,100,101]) (n_start:s≠ByteArray.mk #[115,116,97,114,116]) (n_way:s≠ByteArray.mk #[119,97,121]) (n_tick:s≠ByteArray.mk #[116,105,99,107]) (n_bring:s≠ByteArray.mk #[98,114,105,110,103]) (n_lose:s≠ByteArray.mk #[108,111,115,101]) (n_stop:s≠ByteArray.mk #[115,116,111,112]) (n_ask:s≠ByteArray.mk #[97,115,107]) (n_join:s≠ByteArray.mk #[106,111,105,110]):AskR none S s L k:=by
 refine ⟨fun _ _ _ h=>(by cases h),fun w d f b A n c g hD h=>?_⟩
 have HB:=Lib.hid (fun w'=>bad_ok 11 w')
 have q_node:(s.toList == [110,111,100,101])=false:=by have:=(toListNe n_node).1;rw [show (ByteArray.mk #[110,111,100,101]).toList = [110,111,100,101] by rw [ByteArray.toList_eq]] at this;exact this
 have q_start:(s.toList == [115,116,97,114,116])=false:=by have:=(toListNe n_start).1;rw [show (ByteArray.mk #[115,116,97,114,116]).toList = [115,116,97,114,116] by rw [ByteArray.toList_eq]] at this;exact this
 have q_way:(s.toList == [119,97,121])=false:=by have:=(toListNe n_way).1;rw [show (ByteArray.mk #[119,97,121]).toList = [119,97,121] by rw [ByteArray.toList_eq]] at this;exact this
 have q_tick:(s.toList == [116,105,99,107])=false:=by have:=(toListNe n_tick).1;rw [show (ByteArray.mk #[116,105,99,107]).toList = [116,105,99,107] by rw [ByteArray.toList_eq]] at this;exact this
 have q_bring:(s.toList == [98,114,105,110,103])=false:=by have:=(toListNe n_bring).1;rw [show (ByteArray.mk #[98,114,105,110,103]).toList = [98,114,105,110,103] by rw [ByteArray.toList_eq]] at this;exact this
 have q_lose:(s.toList == [108,111,115,101])=false:=by have:=(toListNe n_lose).1;rw [show (ByteArray.mk #[108,111,115,101]).toList = [108,111,115,101] by rw [ByteArray.toList_eq]] at this;exact this
 have q_stop:(s.toList == [115,116,111,112])=false:=by have:=(toListNe n_stop).1;rw [show (ByteArray.mk #[115,116,111,112]).toList = [115,116,111,112] by rw [ByteArray.toList_eq]] at this;exact this
 have q_ask:(s.toList == [97,115,107])=false:=by have:=(toListNe n_ask).1;rw [show (ByteArray.mk #[97,115,107]).toList = [97,115,107] by rw [ByteArray.toList_eq]] at this;exact this
 have q_join:(s.toList == [106,111,105,110])=false:=by have:=(toListNe n_join).1;rw [show (ByteArray.mk #[106,111,105,110]).toList = [106,111,105,110] by rw [ByteArray.toList_eq]] at this;exact this
 have hba:Below w.heap.size w (w.alloc (.cells #[.pointer (some ⟨d,0,none⟩)] 33)):=(Below.refl _ _).alloc (Nat.le_refl _) _
 have G0:=Lib.hid (Got.of (Got.refl b w) hba)
 clear g h hD hba n_node n_start n_way n_tick n_bring n_lose n_stop n_ask n_join
 go_enter Tryz.func29,Tryz.ntmps29
 go_wp2_with fail
 refine (HB.out _).mono ?_
 rintro e w1 ⟨rfl,hb1⟩
 exact ⟨rfl,rfl,Got.of G0.out hb1⟩
end Go.Proofs.YtnaebigoknfndaaGreatDoor
namespace Go.Proofs.YtnaebigoknfndaaGreatDoor
open Go Go.RowKit
def Left (w:World) (d:Nat) (S':DSt) (f:Nat→Prop) (w':World):Prop:=∃ f',DRep w' d S' f'∧(∀ x,f' x→f x∨w.heap.size≤x)∧Kept f w w'
def AnsR (S:DSt) (L:List ByteArray) (o:Out) (S':DSt):Prop:=∀ w d f A n c,GOK w→DRep w d S f→L.length=n→n≤1048576 →
 (∀ j,j<n→∃ g off,A=some ⟨g,off,none⟩∧g<w.heap.size∧w.cell? ⟨g,off+j,none⟩=some (.string (L.getD j ⟨#[]⟩))∧(L.getD j ⟨#[]⟩).size≤1048576) →
 Calls Tryz.prog 13 #[.pointer (some ⟨d,0,none⟩),.slice A n c] w fun e w'=>e=.returned (.string o.text)∧Left w d S' f w'
def LeftR (w:World) (d:Nat) (S':DSt) (f:Nat→Prop) (r:Nat) (w':World):Prop:=∃ f',DRep w' d S' f'∧(∀ x,f' x→f x∨w.heap.size≤x)∧Kept f w w'∧¬ f' r
theorem LeftR.below {w w1 w2:World} {d r:Nat} {S':DSt} {f:Nat→Prop} (h:LeftR w d S' f r w1) (hb:Below w1.heap.size w1 w2):LeftR w d S' f r w2:=by
 obtain ⟨f',h1,h2,h3,h4⟩:=h
 exact ⟨f',h1.below hb,h2,h3.trans (Kept.of_below (f:=f) hb) (fun x _ hx=>hx),h4⟩
theorem LeftR.set {w w1:World} {d r:Nat} {S':DSt} {f:Nat→Prop} (h:LeftR w d S' f r w1) (hr:w.heap.size≤r) (o:Nat) (u:Value):Left w d S' f (w1.setCell ⟨r,o,none⟩ u):=by
 obtain ⟨f',h1,h2,h3,h4⟩:=h
 refine ⟨f',h1.same ⟨by simp [World.setCell],fun x hx hfx=>Below.heap_setCell _ _ _ _ (fun e=>h4 (by have e:x=r:=e;rw [← e];exact hfx))⟩,h2,⟨h3.os,h3.tape,h3.output,by simp [World.setCell];exact h3.size,fun x hx hfx=>(Below.heap_setCell _ _ _ _ (fun e=>by have e:x=r:=e;omega)).trans (h3.block x hx hfx)⟩⟩
theorem loadVar_str {w:World} {a:Addr} {t:ByteArray} (hc:w.cell? a=some (.string t)):(loadVar 9 a).run Tryz.prog w=.ok (.string t) w:=by
 have h:=run_isAgg_plain (P:=Tryz.prog) Tryz.underlying9 rfl
 simp [loadVar,Sem.run_bind,h,Result.andThen,go_sem,hc]
theorem LeftR.of_below {w w1:World} {d r:Nat} {S:DSt} {f:Nat→Prop} (h:DRep w d S f) (hb:Below w.heap.size w w1) (hr:w.heap.size≤r):LeftR w d S f r w1:=
 ⟨f,h.below hb,fun x hx=>.inl hx,Kept.of_below hb,fun e=>by have:=(h.lt r e).2;omega⟩
abbrev ansDef (r:Nat):List Deferred:=[{ target:=.fn (.func 21) #[.pointer (some ⟨r,0,none⟩)],args:=#[] }]
theorem close_panic {w w':World} {d r:Nat} {S':DSt} {f:Nat→Prop} {tmps:Array Value} {s0:ByteArray} {e0:Int} (hr:w.heap.size≤r) (htm:tmps.getD 4 undef=.pointer (some ⟨r,0,none⟩)) (hc:w'.cell? ⟨r,0,none⟩=some (.string s0)) (hz:w'.frozen? ⟨r,0,none⟩=false) (hp:r<w'.heap.size) (g:GOK w') (he : -9223372036854775808≤e0∧e0≤9223372036854775807) (hl:LeftR w d S' f r w') :
  Leaves Tryz.prog Tryz.f13 tmps (fun e w''=>e=.returned (.string (Out.err e0).text)∧Left w d S' f w'') (ansDef r) (.panicking [{ v:=fltV e0,recovered:=false }]) w':=by
 refine leaves_cons (f:=21) (args:=#[.pointer (some ⟨r,0,none⟩)]) (by simp) (by simp [go_sem]) ?_
 refine (catch_fault r s0 e0 w' g he hc hz hp).mono ?_
 rintro e u' w'' ⟨rfl,rfl,w1,hb,rfl⟩
 have hc1:=(hb.cell (p:=⟨r,0,none⟩) hp).trans hc
 refine ⟨.string (errB++itoB e0),results_cell_one Tryz.results13 htm (loadVar_str (World.cell?_setCell_same _ _ _ hc1)),rfl,(hl.below hb).set hr _ _⟩
theorem close_ret {w w':World} {d r:Nat} {S':DSt} {f:Nat→Prop} {tmps:Array Value} {t:ByteArray} (htm:tmps.getD 4 undef=.pointer (some ⟨r,0,none⟩)) (hc:w'.cell? ⟨r,0,none⟩=some (.string t)) (hl:Left w d S' f w') :
  Leaves Tryz.prog Tryz.f13 tmps (fun e w''=>e=.returned (.string (Out.txt t).text)∧Left w d S' f w'') (ansDef r) .returning w':=by
 refine leaves_cons (f:=21) (args:=#[.pointer (some ⟨r,0,none⟩)]) (by simp) (by simp [go_sem]) ?_
 refine (catch_idle r w').mono ?_
 rintro e u' w'' ⟨rfl,rfl,rfl⟩
 exact ⟨.string t,results_cell_one Tryz.results13 htm (loadVar_str hc),rfl,hl⟩
theorem wideF_enters {s:ByteArray} {f:FuncId} (h:wideF s=some f):EntersF f:=by
 unfold wideF at h
 split at h
 ·cases h;exact enters_of Tryz.func37 (by kernel_rfl) rfl
 ·split at h
  ·cases h;exact enters_of Tryz.func39 (by kernel_rfl) rfl
  ·split at h
   ·cases h;exact enters_of Tryz.func41 (by kernel_rfl) rfl
   ·split at h
    ·cases h;exact enters_of Tryz.func43 (by kernel_rfl) rfl
    ·split at h
     ·cases h;exact enters_of Tryz.func45 (by kernel_rfl) rfl
     ·cases h
theorem wideF_ex {s:ByteArray} {f:FuncId} (h:wideF s=some f) {a b:Nat} (ha:U128 (a:Int)) (hb:U128 (b:Int)):WideC f a b:=by
 unfold wideF at h
 split at h
 ·cases h;exact dsum_ex ha hb
 ·split at h
  ·cases h;exact dless_ex ha hb
  ·split at h
   ·cases h;exact dtimes_ex ha hb
   ·split at h
    ·cases h;exact ddiv_ex ha hb
    ·split at h
     ·cases h;exact dhalve_ex ha hb
     ·cases h
theorem ans_wide1 (S:DSt) (L:List ByteArray) (s:ByteArray) (fw:FuncId) (hs:L.getD 0 ⟨#[]⟩=s) (hL:0<L.length) (hf:wideF s=some fw) (hx:pGreat L 1=none):AnsR S L (.err 11) S:=by
 intro w d f A n c g hD hn hn1 hrow
 have hmf:=mkfun
 have qa:=alloc_cells
 have qf:=alloc_frozens
 obtain ⟨g0,off,rfl,hg0,hc0,_⟩:=hrow 0 (by omega)
 rw [hs,Nat.add_zero] at hc0
 have hw1:wideV s=.func (.func fw) #[] #[]:=by unfold wideV;rw [hf]
 have hw2:(wideF s).isSome=true:=by rw [hf];rfl
 have HW:=Lib.hid (fun w'=>wides_ok s w')
 rw [hw1,hw2] at HW
 have hw0:Below w.heap.size w ((w.alloc (.cells #[.string ⟨#[]⟩] 9)).alloc (.cells #[.slice (some ⟨g0,off,none⟩) n c,.int .i64 1] 61)):=((Below.refl _ _).alloc (Nat.le_refl _) _).alloc (by simp) _
 have hst:WSt ((w.alloc (.cells #[.string ⟨#[]⟩] 9)).alloc (.cells #[.slice (some ⟨g0,off,none⟩) n c,.int .i64 1] 61)) (w.heap.size+1) (some ⟨g0,off,none⟩) n c L 1:=by
  refine ⟨?_,hn,by omega,hn1,by have:=g.low;omega,fun j hj=>?_⟩
  ·have:=heap_alloc_new' (w.alloc (.cells #[.string ⟨#[]⟩] 9)) (.cells #[.slice (some ⟨g0,off,none⟩) n c,.int .i64 1] 61)
   simpa using this
  ·obtain ⟨g1,off1,e1,h1,h2,h3⟩:=hrow j hj
   exact ⟨g1,off1,e1,by omega,(hw0.cell (p:=⟨g1,_,none⟩) h1).trans h2,h3⟩
 have HST:=Lib.hid hst
 have HW0:=Lib.hid hw0
 have HGr:=Lib.hid (fun w' (h:WSt w' (w.heap.size+1) (some ⟨g0,off,none⟩) n c L 1)=>wgreat_no h hx)
 have n0:(0:Int)<n:=by omega
 have HD:=Lib.hid hD
 have HG:=Lib.hid g
 clear hrow hst hw0 hD g hx hf hw1 hw2 hs hL hn hn1
 go_enter_defers Tryz.func13,Tryz.ntmps13
 go_wp2_with fail
 refine (HW.out _).mono ?_
 rintro e w1 ⟨rfl,hb1⟩
 have hs1:=HST.out.below hb1
 go_wp2_with fail
 refine (HGr.out _ hs1).mono ?_
 rintro e w2 ⟨rfl,hg2⟩
 have z1:=hb1.size
 have r1:w1.cell? ⟨w.heap.size,0,none⟩=some (.string ⟨#[]⟩):=(hb1.cell (p:=⟨w.heap.size,0,none⟩) (by simp;omega)).trans (by rw [qa,if_pos (by simp),qa];simp)
 have q1:w1.frozen? ⟨w.heap.size,0,none⟩=false:=(hb1.frozen (p:=⟨w.heap.size,0,none⟩) (by simp;omega)).trans (by rw [qf,if_pos (by simp),qf];simp)
 have hbw1:Below w.heap.size w w1:=HW0.out.trans (hb1.mono (by simp;omega))
 simp at z1
 have hbw2:Below w.heap.size w w2:=hbw1.trans ((Got.below hg2 hs1.lt).mono (by omega))
 obtain ⟨x1,x2⟩:=Got.cells hg2 (x:=w.heap.size) (o:=0) (by omega) (by omega)
 exact close_panic (Nat.le_refl _) rfl (x1.trans r1) (x2.trans q1) (by have:=hg2.size;omega) (HG.out.below hbw2 HG.out.low) (by decide) (LeftR.of_below HD.out hbw2 (Nat.le_refl _))
end Go.Proofs.YtnaebigoknfndaaGreatDoor
