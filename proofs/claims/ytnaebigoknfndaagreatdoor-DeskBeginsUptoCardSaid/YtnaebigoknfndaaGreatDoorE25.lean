/- What the desk's two laws lean on: part 25 (contracts and plain laws; their conditions stand in each). -/
import Derived.Test.YtnaebigoknfndaaGreatDoorE01
import Derived.Test.YtnaebigoknfndaaGreatDoorE24
import Derived.Test.YtnaebigoknfndaaGreatDoorE04
import Derived.Test.YtnaebigoknfndaaGreatDoorE09
import Derived.Test.YtnaebigoknfndaaGreatDoorE17
set_option linter.unusedVariables false
set_option linter.unusedSimpArgs false
set_option maxRecDepth 100000
set_option maxHeartbeats 20000000
namespace Go.Proofs.YtnaebigoknfndaaGreatDoor
open Go Go.RowKit
variable {w w':World} {b n c k:Nat} {A:Option Addr} {L:List ByteArray}
theorem values_rank_no1 (s:ByteArray) (hs:s=ByteArray.mk #[114,97,110,107]) {l:List Int} (hl:pList L k=some l) (hx:pNum L (k+1)=none):ValR none s L k:=by
 refine ⟨fun _ _ h=>(by cases h),fun w b A n c g h=>?_⟩
 have HL:=Lib.hid (wlist_ok g h hl)
 have hbl:=h.lt
 have h10:=h.2.2.2.2.1
 have q_sums:(s.toList == [115,117,109,115])=false:=lit_of hs
 have q_mean:(s.toList == [109,101,97,110])=false:=lit_of hs
 have q_spread:(s.toList == [115,112,114,101,97,100])=false:=lit_of hs
 have q_rank:(s.toList == [114,97,110,107])=true:=lit_of hs
 have hmf:=mkfun
 have qa:=alloc_cells
 have qf:=alloc_frozens
 obtain ⟨m,hm⟩:∃ m,l.length=m:=⟨_,rfl⟩
 have HG:=Lib.hid (fun w' (hg:Got b w w')=>g.grown hg h10)
 have HN:=Lib.hid (fun w' (g:GOK w') (h:WSt w' b A n c L (k+1))=>wnum_no g h hx)
 rw [hm] at HL
 clear hs hl hx g h hm
 go_enter Tryz.func28,Tryz.ntmps28
 go_wp2_with fail
 refine HL.out.mono ?_
 rintro e w1 ⟨⟨A',c',m0,rfl,hm0,own1⟩,h1,hg1⟩
 have hba:Below w1.heap.size w1 (w1.alloc (.cells #[.slice A' m c'] 90)):=(Below.refl _ _).alloc (Nat.le_refl _) _
 have hbs:=hg1.size
 have H1:=Lib.hid (h1.below hba)
 have G1:=Lib.hid (Got.of hg1 hba)
 have O1:=Lib.hid (own_below own1 hba)
 clear own1 h1 hg1 hba
 go_wp2_with fail
 refine (HN.out _ (HG.out _ G1.out) H1.out).mono ?_
 rintro e w3 ⟨rfl,hg3⟩
 exact ⟨rfl,rfl,grown_trans G1.out hg3⟩
theorem values_rank_no2 (s:ByteArray) (hs:s=ByteArray.mk #[114,97,110,107]) {l:List Int} {x:Int} (hl:pList L k=some l) (hx:pNum L (k+1)=some x) (hy:pNum L (k+2)=none):ValR none s L k:=by
 refine ⟨fun _ _ h=>(by cases h),fun w b A n c g h=>?_⟩
 have HL:=Lib.hid (wlist_ok g h hl)
 have hbl:=h.lt
 have h10:=h.2.2.2.2.1
 have q_sums:(s.toList == [115,117,109,115])=false:=lit_of hs
 have q_mean:(s.toList == [109,101,97,110])=false:=lit_of hs
 have q_spread:(s.toList == [115,112,114,101,97,100])=false:=lit_of hs
 have q_rank:(s.toList == [114,97,110,107])=true:=lit_of hs
 have hmf:=mkfun
 have qa:=alloc_cells
 have qf:=alloc_frozens
 obtain ⟨m,hm⟩:∃ m,l.length=m:=⟨_,rfl⟩
 have HG:=Lib.hid (fun w' (hg:Got b w w')=>g.grown hg h10)
 have HN:=Lib.hid (fun w' (g:GOK w') (h:WSt w' b A n c L (k+1))=>wnum_ok g h hx)
 have HN2:=Lib.hid (fun w' (g:GOK w') (h:WSt w' b A n c L (k+2))=>wnum_no g h hy)
 rw [hm] at HL
 clear hs hl hx hy g h hm
 go_enter Tryz.func28,Tryz.ntmps28
 go_wp2_with fail
 refine HL.out.mono ?_
 rintro e w1 ⟨⟨A',c',m0,rfl,hm0,own1⟩,h1,hg1⟩
 have hba:Below w1.heap.size w1 (w1.alloc (.cells #[.slice A' m c'] 90)):=(Below.refl _ _).alloc (Nat.le_refl _) _
 have hbs:=hg1.size
 have H1:=Lib.hid (h1.below hba)
 have G1:=Lib.hid (Got.of hg1 hba)
 have O1:=Lib.hid (own_below own1 hba)
 clear own1 h1 hg1 hba
 go_wp2_with fail
 refine (HN.out _ (HG.out _ G1.out) H1.out).mono ?_
 rintro e w3 ⟨rfl,h3,hg3⟩
 have G3:=Lib.hid (grown_trans G1.out hg3)
 have H3:=Lib.hid h3
 clear h3 hg3
 go_wp2_with fail
 refine (HN2.out _ (HG.out _ G3.out) H3.out).mono ?_
 rintro e w4 ⟨rfl,hg4⟩
 exact ⟨rfl,rfl,grown_trans G3.out hg4⟩
theorem values_rank (s:ByteArray) (hs:s=ByteArray.mk #[114,97,110,107]) {l:List Int} {x y:Int} (hl:pList L k=some l) (hz:(L.getD k ⟨#[]⟩).size≤1048576) (hx:pNum L (k+1)=some x) (hy:pNum L (k+2)=some y):∃ R,ValR R s L k:=by
 obtain ⟨o,ho,H⟩:=vrank_ex l x y (pList_len hl hz)
 refine ⟨some (o,k+3),fun _ _ e=>(by cases e;exact ho),fun w b A n c g h=>?_⟩
 have HL:=Lib.hid (wlist_ok g h hl)
 have hbl:=h.lt
 have h10:=h.2.2.2.2.1
 have q_sums:(s.toList == [115,117,109,115])=false:=lit_of hs
 have q_mean:(s.toList == [109,101,97,110])=false:=lit_of hs
 have q_spread:(s.toList == [115,112,114,101,97,100])=false:=lit_of hs
 have q_rank:(s.toList == [114,97,110,107])=true:=lit_of hs
 have hmf:=mkfun
 have qa:=alloc_cells
 have qf:=alloc_frozens
 obtain ⟨m,hm⟩:∃ m,l.length=m:=⟨_,rfl⟩
 have HG:=Lib.hid (fun w' (hg:Got b w w')=>g.grown hg h10)
 have HN:=Lib.hid (fun w' (g:GOK w') (h:WSt w' b A n c L (k+1))=>wnum_ok g h hx)
 have HN2:=Lib.hid (fun w' (g:GOK w') (h:WSt w' b A n c L (k+2))=>wnum_ok g h hy)
 have HH:=Lib.hid H
 rw [hm] at HL HH
 clear hs hl hx hy g h hm H ho
 go_enter Tryz.func28,Tryz.ntmps28
 go_wp2_with fail
 refine HL.out.mono ?_
 rintro e w1 ⟨⟨A',c',m0,rfl,hm0,own1⟩,h1,hg1⟩
 have hba:Below w1.heap.size w1 (w1.alloc (.cells #[.slice A' m c'] 90)):=(Below.refl _ _).alloc (Nat.le_refl _) _
 have hbs:=hg1.size
 have H1:=Lib.hid (h1.below hba)
 have G1:=Lib.hid (Got.of hg1 hba)
 have O1:=Lib.hid (own_below own1 hba)
 clear own1 h1 hg1 hba
 go_wp2_with fail
 refine (HN.out _ (HG.out _ G1.out) H1.out).mono ?_
 rintro e w3 ⟨rfl,h3,hg3⟩
 have lt1:w1.heap.size<(w1.alloc (.cells #[.slice A' m c'] 90)).heap.size:=by simp
 have k3:=(Got.cells hg3 (x:=w1.heap.size) (o:=0) lt1 (by omega)).1
 have z3:=hg3.size
 simp [qa] at k3 z3
 have G3:=Lib.hid (grown_trans G1.out hg3)
 have H3:=Lib.hid h3
 have O3:=Lib.hid (own_got O1.out hg3 (by omega))
 clear h3 hg3
 go_wp2_with fail
 refine (HN2.out _ (HG.out _ G3.out) H3.out).mono ?_
 rintro e w4 ⟨rfl,h4,hg4⟩
 have k4:=((Got.cells hg4 (x:=w1.heap.size) (o:=0) (by omega) (by omega)).1).trans k3
 have z4:=hg4.size
 have hbb:Below w4.heap.size w4 ((w4.alloc (.cells #[.int .i64 x] 3)).alloc (.cells #[.int .i64 y] 3)):=((Below.refl _ _).alloc (Nat.le_refl _) _).alloc (by simp) _
 have HK:=Lib.hid (⟨inRow_own (own_below (own_got O3.out hg4 (by omega)) hbb),h4.below hbb,Got.of (grown_trans G3.out hg4) hbb⟩:_∧_∧_)
 clear h4 hg4 hbb
 go_wp2_with fail
 refine bodyPost_ret (v:=.func (.func 64) #[] #[.pointer (some ⟨w1.heap.size,0,none⟩),.pointer (some ⟨w4.heap.size,0,none⟩),.pointer (some ⟨w4.heap.size+1,0,none⟩)]) (by simp [results,Tryz.results28,go_sem]) rfl ?_
 obtain ⟨hin,hws,hgot⟩:=HK.out
 refine ⟨_,rfl,⟨_,_,rfl,enters_of Tryz.func64 (by kernel_rfl) rfl,fun w2 hb2 g2=>?_⟩,hws,hgot⟩
 have lt5:w1.heap.size<((w4.alloc (.cells #[.int .i64 x] 3)).alloc (.cells #[.int .i64 y] 3)).heap.size:=by simp;omega
 have lt6:w4.heap.size<((w4.alloc (.cells #[.int .i64 x] 3)).alloc (.cells #[.int .i64 y] 3)).heap.size:=by simp;omega
 have lt7:w4.heap.size+1<((w4.alloc (.cells #[.int .i64 x] 3)).alloc (.cells #[.int .i64 y] 3)).heap.size:=by simp
 exact HH.out w2 w1.heap.size w4.heap.size (w4.heap.size+1) A' c' g2 (hin.below hb2) ((hb2.cell (p:=⟨w1.heap.size,0,none⟩) lt5).trans (by rw [qa,if_pos (by simp;omega),qa,if_pos (by omega)];exact k4)) (Nat.lt_of_lt_of_le lt5 hb2.size) ((hb2.cell (p:=⟨w4.heap.size,0,none⟩) lt6).trans (by rw [qa,if_pos (by simp),qa];simp)) (Nat.lt_of_lt_of_le lt6 hb2.size) ((hb2.cell (p:=⟨w4.heap.size+1,0,none⟩) lt7).trans (by rw [qa];simp)) (Nat.lt_of_lt_of_le lt7 hb2.size)
theorem values_cantelli_no1 (s:ByteArray) (hs:s=ByteArray.mk #[99,97,110,116,101,108,108,105]) {l:List Int} (hl:pList L k=some l) (hx:pNum L (k+1)=none):ValR none s L k:=by
 refine ⟨fun _ _ h=>(by cases h),fun w b A n c g h=>?_⟩
 have HL:=Lib.hid (wlist_ok g h hl)
 have hbl:=h.lt
 have h10:=h.2.2.2.2.1
 have q_sums:(s.toList == [115,117,109,115])=false:=lit_of hs
 have q_mean:(s.toList == [109,101,97,110])=false:=lit_of hs
 have q_spread:(s.toList == [115,112,114,101,97,100])=false:=lit_of hs
 have q_rank:(s.toList == [114,97,110,107])=false:=lit_of hs
 have q_cantelli:(s.toList == [99,97,110,116,101,108,108,105])=true:=lit_of hs
 have hmf:=mkfun
 have qa:=alloc_cells
 have qf:=alloc_frozens
 obtain ⟨m,hm⟩:∃ m,l.length=m:=⟨_,rfl⟩
 have HG:=Lib.hid (fun w' (hg:Got b w w')=>g.grown hg h10)
 have HN:=Lib.hid (fun w' (g:GOK w') (h:WSt w' b A n c L (k+1))=>wnum_no g h hx)
 rw [hm] at HL
 clear hs hl hx g h hm
 go_enter Tryz.func28,Tryz.ntmps28
 go_wp2_with fail
 refine HL.out.mono ?_
 rintro e w1 ⟨⟨A',c',m0,rfl,hm0,own1⟩,h1,hg1⟩
 have hba:Below w1.heap.size w1 (w1.alloc (.cells #[.slice A' m c'] 90)):=(Below.refl _ _).alloc (Nat.le_refl _) _
 have hbs:=hg1.size
 have H1:=Lib.hid (h1.below hba)
 have G1:=Lib.hid (Got.of hg1 hba)
 have O1:=Lib.hid (own_below own1 hba)
 clear own1 h1 hg1 hba
 go_wp2_with fail
 refine (HN.out _ (HG.out _ G1.out) H1.out).mono ?_
 rintro e w3 ⟨rfl,hg3⟩
 exact ⟨rfl,rfl,grown_trans G1.out hg3⟩
theorem values_cantelli (s:ByteArray) (hs:s=ByteArray.mk #[99,97,110,116,101,108,108,105]) {l:List Int} {x:Int} (hl:pList L k=some l) (hz:(L.getD k ⟨#[]⟩).size≤1048576) (hx:pNum L (k+1)=some x):∃ R,ValR R s L k:=by
 obtain ⟨o,ho,H⟩:=vcantelli_ex l x (pList_len hl hz)
 refine ⟨some (o,k+2),fun _ _ e=>(by cases e;exact ho),fun w b A n c g h=>?_⟩
 have HL:=Lib.hid (wlist_ok g h hl)
 have hbl:=h.lt
 have h10:=h.2.2.2.2.1
 have q_sums:(s.toList == [115,117,109,115])=false:=lit_of hs
 have q_mean:(s.toList == [109,101,97,110])=false:=lit_of hs
 have q_spread:(s.toList == [115,112,114,101,97,100])=false:=lit_of hs
 have q_rank:(s.toList == [114,97,110,107])=false:=lit_of hs
 have q_cantelli:(s.toList == [99,97,110,116,101,108,108,105])=true:=lit_of hs
 have hmf:=mkfun
 have qa:=alloc_cells
 have qf:=alloc_frozens
 obtain ⟨m,hm⟩:∃ m,l.length=m:=⟨_,rfl⟩
 have HG:=Lib.hid (fun w' (hg:Got b w w')=>g.grown hg h10)
 have HN:=Lib.hid (fun w' (g:GOK w') (h:WSt w' b A n c L (k+1))=>wnum_ok g h hx)
 have HH:=Lib.hid H
 rw [hm] at HL HH
 clear hs hl hx g h hm H ho
 go_enter Tryz.func28,Tryz.ntmps28
 go_wp2_with fail
 refine HL.out.mono ?_
 rintro e w1 ⟨⟨A',c',m0,rfl,hm0,own1⟩,h1,hg1⟩
 have hba:Below w1.heap.size w1 (w1.alloc (.cells #[.slice A' m c'] 90)):=(Below.refl _ _).alloc (Nat.le_refl _) _
 have hbs:=hg1.size
 have H1:=Lib.hid (h1.below hba)
 have G1:=Lib.hid (Got.of hg1 hba)
 have O1:=Lib.hid (own_below own1 hba)
 clear own1 h1 hg1 hba
 go_wp2_with fail
 refine (HN.out _ (HG.out _ G1.out) H1.out).mono ?_
 rintro e w3 ⟨rfl,h3,hg3⟩
 have lt1:w1.heap.size<(w1.alloc (.cells #[.slice A' m c'] 90)).heap.size:=by simp
 have k3:=(Got.cells hg3 (x:=w1.heap.size) (o:=0) lt1 (by omega)).1
 have z3:=hg3.size
 have hbb:Below w3.heap.size w3 (w3.alloc (.cells #[.int .i64 x] 3)):=(Below.refl _ _).alloc (Nat.le_refl _) _
 have HK:=Lib.hid (⟨inRow_own (own_below (own_got O1.out hg3 (by omega)) hbb),h3.below hbb,Got.of (grown_trans G1.out hg3) hbb⟩:_∧_∧_)
 simp [qa] at k3 z3
 clear h3 hg3 hbb
 go_wp2_with fail
 refine bodyPost_ret (v:=.func (.func 66) #[] #[.pointer (some ⟨w1.heap.size,0,none⟩),.pointer (some ⟨w3.heap.size,0,none⟩)]) (by simp [results,Tryz.results28,go_sem]) rfl ?_
 obtain ⟨hin,hws,hgot⟩:=HK.out
 refine ⟨_,rfl,⟨_,_,rfl,enters_of Tryz.func66 (by kernel_rfl) rfl,fun w2 hb2 g2=>?_⟩,hws,hgot⟩
 have lt5:w1.heap.size<(w3.alloc (.cells #[.int .i64 x] 3)).heap.size:=by simp;omega
 have lt6:w3.heap.size<(w3.alloc (.cells #[.int .i64 x] 3)).heap.size:=by simp
 exact HH.out w2 w1.heap.size w3.heap.size A' c' g2 (hin.below hb2) ((hb2.cell (p:=⟨w1.heap.size,0,none⟩) lt5).trans (by rw [qa,if_pos (by omega)];exact k3)) (Nat.lt_of_lt_of_le lt5 hb2.size) ((hb2.cell (p:=⟨w3.heap.size,0,none⟩) lt6).trans (by simp [qa])) (Nat.lt_of_lt_of_le lt6 hb2.size)
theorem values_fade_no1 (s:ByteArray) (hs:s=ByteArray.mk #[102,97,100,101]) {l:List Int} (hl:pList L k=some l) (hx:pNum L (k+1)=none):ValR none s L k:=by
 refine ⟨fun _ _ h=>(by cases h),fun w b A n c g h=>?_⟩
 have HL:=Lib.hid (wlist_ok g h hl)
 have hbl:=h.lt
 have h10:=h.2.2.2.2.1
 have q_sums:(s.toList == [115,117,109,115])=false:=lit_of hs
 have q_mean:(s.toList == [109,101,97,110])=false:=lit_of hs
 have q_spread:(s.toList == [115,112,114,101,97,100])=false:=lit_of hs
 have q_rank:(s.toList == [114,97,110,107])=false:=lit_of hs
 have q_cantelli:(s.toList == [99,97,110,116,101,108,108,105])=false:=lit_of hs
 have q_fade:(s.toList == [102,97,100,101])=true:=lit_of hs
 have hmf:=mkfun
 have qa:=alloc_cells
 have qf:=alloc_frozens
 obtain ⟨m,hm⟩:∃ m,l.length=m:=⟨_,rfl⟩
 have HG:=Lib.hid (fun w' (hg:Got b w w')=>g.grown hg h10)
 have HN:=Lib.hid (fun w' (g:GOK w') (h:WSt w' b A n c L (k+1))=>wnum_no g h hx)
 rw [hm] at HL
 clear hs hl hx g h hm
 go_enter Tryz.func28,Tryz.ntmps28
 go_wp2_with fail
 refine HL.out.mono ?_
 rintro e w1 ⟨⟨A',c',m0,rfl,hm0,own1⟩,h1,hg1⟩
 have hba:Below w1.heap.size w1 (w1.alloc (.cells #[.slice A' m c'] 90)):=(Below.refl _ _).alloc (Nat.le_refl _) _
 have hbs:=hg1.size
 have H1:=Lib.hid (h1.below hba)
 have G1:=Lib.hid (Got.of hg1 hba)
 have O1:=Lib.hid (own_below own1 hba)
 clear own1 h1 hg1 hba
 go_wp2_with fail
 refine (HN.out _ (HG.out _ G1.out) H1.out).mono ?_
 rintro e w3 ⟨rfl,hg3⟩
 exact ⟨rfl,rfl,grown_trans G1.out hg3⟩
theorem values_fade (s:ByteArray) (hs:s=ByteArray.mk #[102,97,100,101]) {l:List Int} {x:Int} (hl:pList L k=some l) (hz:(L.getD k ⟨#[]⟩).size≤1048576) (hx:pNum L (k+1)=some x):∃ R,ValR R s L k:=by
 obtain ⟨o,ho,H⟩:=vfade_ex l x (pList_len hl hz)
 refine ⟨some (o,k+2),fun _ _ e=>(by cases e;exact ho),fun w b A n c g h=>?_⟩
 have HL:=Lib.hid (wlist_ok g h hl)
 have hbl:=h.lt
 have h10:=h.2.2.2.2.1
 have q_sums:(s.toList == [115,117,109,115])=false:=lit_of hs
 have q_mean:(s.toList == [109,101,97,110])=false:=lit_of hs
 have q_spread:(s.toList == [115,112,114,101,97,100])=false:=lit_of hs
 have q_rank:(s.toList == [114,97,110,107])=false:=lit_of hs
 have q_cantelli:(s.toList == [99,97,110,116,101,108,108,105])=false:=lit_of hs
 have q_fade:(s.toList == [102,97,100,101])=true:=lit_of hs
 have hmf:=mkfun
 have qa:=alloc_cells
 have qf:=alloc_frozens
 obtain ⟨m,hm⟩:∃ m,l.length=m:=⟨_,rfl⟩
 have HG:=Lib.hid (fun w' (hg:Got b w w')=>g.grown hg h10)
 have HN:=Lib.hid (fun w' (g:GOK w') (h:WSt w' b A n c L (k+1))=>wnum_ok g h hx)
 have HH:=Lib.hid H
 rw [hm] at HL HH
 clear hs hl hx g h hm H ho
 go_enter Tryz.func28,Tryz.ntmps28
 go_wp2_with fail
 refine HL.out.mono ?_
 rintro e w1 ⟨⟨A',c',m0,rfl,hm0,own1⟩,h1,hg1⟩
 have hba:Below w1.heap.size w1 (w1.alloc (.cells #[.slice A' m c'] 90)):=(Below.refl _ _).alloc (Nat.le_refl _) _
 have hbs:=hg1.size
 have H1:=Lib.hid (h1.below hba)
 have G1:=Lib.hid (Got.of hg1 hba)
 have O1:=Lib.hid (own_below own1 hba)
 clear own1 h1 hg1 hba
 go_wp2_with fail
 refine (HN.out _ (HG.out _ G1.out) H1.out).mono ?_
 rintro e w3 ⟨rfl,h3,hg3⟩
 have lt1:w1.heap.size<(w1.alloc (.cells #[.slice A' m c'] 90)).heap.size:=by simp
 have k3:=(Got.cells hg3 (x:=w1.heap.size) (o:=0) lt1 (by omega)).1
 have z3:=hg3.size
 have hbb:Below w3.heap.size w3 (w3.alloc (.cells #[.int .i64 x] 3)):=(Below.refl _ _).alloc (Nat.le_refl _) _
 have HK:=Lib.hid (⟨inRow_own (own_below (own_got O1.out hg3 (by omega)) hbb),h3.below hbb,Got.of (grown_trans G1.out hg3) hbb⟩:_∧_∧_)
 simp [qa] at k3 z3
 clear h3 hg3 hbb
 go_wp2_with fail
 refine bodyPost_ret (v:=.func (.func 68) #[] #[.pointer (some ⟨w1.heap.size,0,none⟩),.pointer (some ⟨w3.heap.size,0,none⟩)]) (by simp [results,Tryz.results28,go_sem]) rfl ?_
 obtain ⟨hin,hws,hgot⟩:=HK.out
 refine ⟨_,rfl,⟨_,_,rfl,enters_of Tryz.func68 (by kernel_rfl) rfl,fun w2 hb2 g2=>?_⟩,hws,hgot⟩
 have lt5:w1.heap.size<(w3.alloc (.cells #[.int .i64 x] 3)).heap.size:=by simp;omega
 have lt6:w3.heap.size<(w3.alloc (.cells #[.int .i64 x] 3)).heap.size:=by simp
 exact HH.out w2 w1.heap.size w3.heap.size A' c' g2 (hin.below hb2) ((hb2.cell (p:=⟨w1.heap.size,0,none⟩) lt5).trans (by rw [qa,if_pos (by omega)];exact k3)) (Nat.lt_of_lt_of_le lt5 hb2.size) ((hb2.cell (p:=⟨w3.heap.size,0,none⟩) lt6).trans (by simp [qa])) (Nat.lt_of_lt_of_le lt6 hb2.size)
theorem values_level_no1 (s:ByteArray) (hs:s=ByteArray.mk #[108,101,118,101,108]) {l:List Int} (hl:pList L k=some l) (hx:pNum L (k+1)=none):ValR none s L k:=by
 refine ⟨fun _ _ h=>(by cases h),fun w b A n c g h=>?_⟩
 have HL:=Lib.hid (wlist_ok g h hl)
 have hbl:=h.lt
 have h10:=h.2.2.2.2.1
 have q_sums:(s.toList == [115,117,109,115])=false:=lit_of hs
 have q_mean:(s.toList == [109,101,97,110])=false:=lit_of hs
 have q_spread:(s.toList == [115,112,114,101,97,100])=false:=lit_of hs
 have q_rank:(s.toList == [114,97,110,107])=false:=lit_of hs
 have q_cantelli:(s.toList == [99,97,110,116,101,108,108,105])=false:=lit_of hs
 have q_fade:(s.toList == [102,97,100,101])=false:=lit_of hs
 have q_level:(s.toList == [108,101,118,101,108])=true:=lit_of hs
 have hmf:=mkfun
 have qa:=alloc_cells
 have qf:=alloc_frozens
 obtain ⟨m,hm⟩:∃ m,l.length=m:=⟨_,rfl⟩
 have HG:=Lib.hid (fun w' (hg:Got b w w')=>g.grown hg h10)
 have HN:=Lib.hid (fun w' (g:GOK w') (h:WSt w' b A n c L (k+1))=>wnum_no g h hx)
 rw [hm] at HL
 clear hs hl hx g h hm
 go_enter Tryz.func28,Tryz.ntmps28
 go_wp2_with fail
 refine HL.out.mono ?_
 rintro e w1 ⟨⟨A',c',m0,rfl,hm0,own1⟩,h1,hg1⟩
 have hba:Below w1.heap.size w1 (w1.alloc (.cells #[.slice A' m c'] 90)):=(Below.refl _ _).alloc (Nat.le_refl _) _
 have hbs:=hg1.size
 have H1:=Lib.hid (h1.below hba)
 have G1:=Lib.hid (Got.of hg1 hba)
 have O1:=Lib.hid (own_below own1 hba)
 clear own1 h1 hg1 hba
 go_wp2_with fail
 refine (HN.out _ (HG.out _ G1.out) H1.out).mono ?_
 rintro e w3 ⟨rfl,hg3⟩
 exact ⟨rfl,rfl,grown_trans G1.out hg3⟩
theorem values_level_no2 (s:ByteArray) (hs:s=ByteArray.mk #[108,101,118,101,108]) {l:List Int} {x:Int} (hl:pList L k=some l) (hx:pNum L (k+1)=some x) (hy:pNum L (k+2)=none):ValR none s L k:=by
 refine ⟨fun _ _ h=>(by cases h),fun w b A n c g h=>?_⟩
 have HL:=Lib.hid (wlist_ok g h hl)
 have hbl:=h.lt
 have h10:=h.2.2.2.2.1
 have q_sums:(s.toList == [115,117,109,115])=false:=lit_of hs
 have q_mean:(s.toList == [109,101,97,110])=false:=lit_of hs
 have q_spread:(s.toList == [115,112,114,101,97,100])=false:=lit_of hs
 have q_rank:(s.toList == [114,97,110,107])=false:=lit_of hs
 have q_cantelli:(s.toList == [99,97,110,116,101,108,108,105])=false:=lit_of hs
 have q_fade:(s.toList == [102,97,100,101])=false:=lit_of hs
 have q_level:(s.toList == [108,101,118,101,108])=true:=lit_of hs
 have hmf:=mkfun
 have qa:=alloc_cells
 have qf:=alloc_frozens
 obtain ⟨m,hm⟩:∃ m,l.length=m:=⟨_,rfl⟩
 have HG:=Lib.hid (fun w' (hg:Got b w w')=>g.grown hg h10)
 have HN:=Lib.hid (fun w' (g:GOK w') (h:WSt w' b A n c L (k+1))=>wnum_ok g h hx)
 have HN2:=Lib.hid (fun w' (g:GOK w') (h:WSt w' b A n c L (k+2))=>wnum_no g h hy)
 rw [hm] at HL
 clear hs hl hx hy g h hm
 go_enter Tryz.func28,Tryz.ntmps28
 go_wp2_with fail
 refine HL.out.mono ?_
 rintro e w1 ⟨⟨A',c',m0,rfl,hm0,own1⟩,h1,hg1⟩
 have hba:Below w1.heap.size w1 (w1.alloc (.cells #[.slice A' m c'] 90)):=(Below.refl _ _).alloc (Nat.le_refl _) _
 have hbs:=hg1.size
 have H1:=Lib.hid (h1.below hba)
 have G1:=Lib.hid (Got.of hg1 hba)
 have O1:=Lib.hid (own_below own1 hba)
 clear own1 h1 hg1 hba
 go_wp2_with fail
 refine (HN.out _ (HG.out _ G1.out) H1.out).mono ?_
 rintro e w3 ⟨rfl,h3,hg3⟩
 have G3:=Lib.hid (grown_trans G1.out hg3)
 have H3:=Lib.hid h3
 clear h3 hg3
 go_wp2_with fail
 refine (HN2.out _ (HG.out _ G3.out) H3.out).mono ?_
 rintro e w4 ⟨rfl,hg4⟩
 exact ⟨rfl,rfl,grown_trans G3.out hg4⟩
theorem values_level (s:ByteArray) (hs:s=ByteArray.mk #[108,101,118,101,108]) {l:List Int} {x y:Int} (hl:pList L k=some l) (hz:(L.getD k ⟨#[]⟩).size≤1048576) (hx:pNum L (k+1)=some x) (hy:pNum L (k+2)=some y):∃ R,ValR R s L k:=by
 obtain ⟨o,ho,H⟩:=vlevel_ex l x y (pList_len hl hz)
 refine ⟨some (o,k+3),fun _ _ e=>(by cases e;exact ho),fun w b A n c g h=>?_⟩
 have HL:=Lib.hid (wlist_ok g h hl)
 have hbl:=h.lt
 have h10:=h.2.2.2.2.1
 have q_sums:(s.toList == [115,117,109,115])=false:=lit_of hs
 have q_mean:(s.toList == [109,101,97,110])=false:=lit_of hs
 have q_spread:(s.toList == [115,112,114,101,97,100])=false:=lit_of hs
 have q_rank:(s.toList == [114,97,110,107])=false:=lit_of hs
 have q_cantelli:(s.toList == [99,97,110,116,101,108,108,105])=false:=lit_of hs
 have q_fade:(s.toList == [102,97,100,101])=false:=lit_of hs
 have q_level:(s.toList == [108,101,118,101,108])=true:=lit_of hs
 have hmf:=mkfun
 have qa:=alloc_cells
 have qf:=alloc_frozens
 obtain ⟨m,hm⟩:∃ m,l.length=m:=⟨_,rfl⟩
 have HG:=Lib.hid (fun w' (hg:Got b w w')=>g.grown hg h10)
 have HN:=Lib.hid (fun w' (g:GOK w') (h:WSt w' b A n c L (k+1))=>wnum_ok g h hx)
 have HN2:=Lib.hid (fun w' (g:GOK w') (h:WSt w' b A n c L (k+2))=>wnum_ok g h hy)
 have HH:=Lib.hid H
 rw [hm] at HL HH
 clear hs hl hx hy g h hm H ho
 go_enter Tryz.func28,Tryz.ntmps28
 go_wp2_with fail
 refine HL.out.mono ?_
 rintro e w1 ⟨⟨A',c',m0,rfl,hm0,own1⟩,h1,hg1⟩
 have hba:Below w1.heap.size w1 (w1.alloc (.cells #[.slice A' m c'] 90)):=(Below.refl _ _).alloc (Nat.le_refl _) _
 have hbs:=hg1.size
 have H1:=Lib.hid (h1.below hba)
 have G1:=Lib.hid (Got.of hg1 hba)
 have O1:=Lib.hid (own_below own1 hba)
 clear own1 h1 hg1 hba
 go_wp2_with fail
 refine (HN.out _ (HG.out _ G1.out) H1.out).mono ?_
 rintro e w3 ⟨rfl,h3,hg3⟩
 have lt1:w1.heap.size<(w1.alloc (.cells #[.slice A' m c'] 90)).heap.size:=by simp
 have k3:=(Got.cells hg3 (x:=w1.heap.size) (o:=0) lt1 (by omega)).1
 have z3:=hg3.size
 simp [qa] at k3 z3
 have G3:=Lib.hid (grown_trans G1.out hg3)
 have H3:=Lib.hid h3
 have O3:=Lib.hid (own_got O1.out hg3 (by omega))
 clear h3 hg3
 go_wp2_with fail
 refine (HN2.out _ (HG.out _ G3.out) H3.out).mono ?_
 rintro e w4 ⟨rfl,h4,hg4⟩
 have k4:=((Got.cells hg4 (x:=w1.heap.size) (o:=0) (by omega) (by omega)).1).trans k3
 have z4:=hg4.size
 have hbb:Below w4.heap.size w4 ((w4.alloc (.cells #[.int .i64 x] 3)).alloc (.cells #[.int .i64 y] 3)):=((Below.refl _ _).alloc (Nat.le_refl _) _).alloc (by simp) _
 have HK:=Lib.hid (⟨inRow_own (own_below (own_got O3.out hg4 (by omega)) hbb),h4.below hbb,Got.of (grown_trans G3.out hg4) hbb⟩:_∧_∧_)
 clear h4 hg4 hbb
 go_wp2_with fail
 refine bodyPost_ret (v:=.func (.func 70) #[] #[.pointer (some ⟨w1.heap.size,0,none⟩),.pointer (some ⟨w4.heap.size,0,none⟩),.pointer (some ⟨w4.heap.size+1,0,none⟩)]) (by simp [results,Tryz.results28,go_sem]) rfl ?_
 obtain ⟨hin,hws,hgot⟩:=HK.out
 refine ⟨_,rfl,⟨_,_,rfl,enters_of Tryz.func70 (by kernel_rfl) rfl,fun w2 hb2 g2=>?_⟩,hws,hgot⟩
 have lt5:w1.heap.size<((w4.alloc (.cells #[.int .i64 x] 3)).alloc (.cells #[.int .i64 y] 3)).heap.size:=by simp;omega
 have lt6:w4.heap.size<((w4.alloc (.cells #[.int .i64 x] 3)).alloc (.cells #[.int .i64 y] 3)).heap.size:=by simp;omega
 have lt7:w4.heap.size+1<((w4.alloc (.cells #[.int .i64 x] 3)).alloc (.cells #[.int .i64 y] 3)).heap.size:=by simp
 exact HH.out w2 w1.heap.size w4.heap.size (w4.heap.size+1) A' c' g2 (hin.below hb2) ((hb2.cell (p:=⟨w1.heap.size,0,none⟩) lt5).trans (by rw [qa,if_pos (by simp;omega),qa,if_pos (by omega)];exact k4)) (Nat.lt_of_lt_of_le lt5 hb2.size) ((hb2.cell (p:=⟨w4.heap.size,0,none⟩) lt6).trans (by rw [qa,if_pos (by simp),qa];simp)) (Nat.lt_of_lt_of_le lt6 hb2.size) ((hb2.cell (p:=⟨w4.heap.size+1,0,none⟩) lt7).trans (by rw [qa];simp)) (Nat.lt_of_lt_of_le lt7 hb2.size)
theorem values_when_no1 (s:ByteArray) (hs:s=ByteArray.mk #[119,104,101,110]) {l:List Int} (hl:pList L k=some l) (hx:pNum L (k+1)=none):ValR none s L k:=by
 refine ⟨fun _ _ h=>(by cases h),fun w b A n c g h=>?_⟩
 have HL:=Lib.hid (wlist_ok g h hl)
 have hbl:=h.lt
 have h10:=h.2.2.2.2.1
 have q_sums:(s.toList == [115,117,109,115])=false:=lit_of hs
 have q_mean:(s.toList == [109,101,97,110])=false:=lit_of hs
 have q_spread:(s.toList == [115,112,114,101,97,100])=false:=lit_of hs
 have q_rank:(s.toList == [114,97,110,107])=false:=lit_of hs
 have q_cantelli:(s.toList == [99,97,110,116,101,108,108,105])=false:=lit_of hs
 have q_fade:(s.toList == [102,97,100,101])=false:=lit_of hs
 have q_level:(s.toList == [108,101,118,101,108])=false:=lit_of hs
 have hmf:=mkfun
 have qa:=alloc_cells
 have qf:=alloc_frozens
 obtain ⟨m,hm⟩:∃ m,l.length=m:=⟨_,rfl⟩
 have HG:=Lib.hid (fun w' (hg:Got b w w')=>g.grown hg h10)
 have HN:=Lib.hid (fun w' (g:GOK w') (h:WSt w' b A n c L (k+1))=>wnum_no g h hx)
 rw [hm] at HL
 clear hs hl hx g h hm
 go_enter Tryz.func28,Tryz.ntmps28
 go_wp2_with fail
 refine HL.out.mono ?_
 rintro e w1 ⟨⟨A',c',m0,rfl,hm0,own1⟩,h1,hg1⟩
 have hba:Below w1.heap.size w1 (w1.alloc (.cells #[.slice A' m c'] 90)):=(Below.refl _ _).alloc (Nat.le_refl _) _
 have hbs:=hg1.size
 have H1:=Lib.hid (h1.below hba)
 have G1:=Lib.hid (Got.of hg1 hba)
 have O1:=Lib.hid (own_below own1 hba)
 clear own1 h1 hg1 hba
 go_wp2_with fail
 refine (HN.out _ (HG.out _ G1.out) H1.out).mono ?_
 rintro e w3 ⟨rfl,hg3⟩
 exact ⟨rfl,rfl,grown_trans G1.out hg3⟩
theorem values_when_no2 (s:ByteArray) (hs:s=ByteArray.mk #[119,104,101,110]) {l:List Int} {x:Int} (hl:pList L k=some l) (hx:pNum L (k+1)=some x) (hy:pNum L (k+2)=none):ValR none s L k:=by
 refine ⟨fun _ _ h=>(by cases h),fun w b A n c g h=>?_⟩
 have HL:=Lib.hid (wlist_ok g h hl)
 have hbl:=h.lt
 have h10:=h.2.2.2.2.1
 have q_sums:(s.toList == [115,117,109,115])=false:=lit_of hs
 have q_mean:(s.toList == [109,101,97,110])=false:=lit_of hs
 have q_spread:(s.toList == [115,112,114,101,97,100])=false:=lit_of hs
 have q_rank:(s.toList == [114,97,110,107])=false:=lit_of hs
 have q_cantelli:(s.toList == [99,97,110,116,101,108,108,105])=false:=lit_of hs
 have q_fade:(s.toList == [102,97,100,101])=false:=lit_of hs
 have q_level:(s.toList == [108,101,118,101,108])=false:=lit_of hs
 have hmf:=mkfun
 have qa:=alloc_cells
 have qf:=alloc_frozens
 obtain ⟨m,hm⟩:∃ m,l.length=m:=⟨_,rfl⟩
 have HG:=Lib.hid (fun w' (hg:Got b w w')=>g.grown hg h10)
 have HN:=Lib.hid (fun w' (g:GOK w') (h:WSt w' b A n c L (k+1))=>wnum_ok g h hx)
 have HN2:=Lib.hid (fun w' (g:GOK w') (h:WSt w' b A n c L (k+2))=>wnum_no g h hy)
 rw [hm] at HL
 clear hs hl hx hy g h hm
 go_enter Tryz.func28,Tryz.ntmps28
 go_wp2_with fail
 refine HL.out.mono ?_
 rintro e w1 ⟨⟨A',c',m0,rfl,hm0,own1⟩,h1,hg1⟩
 have hba:Below w1.heap.size w1 (w1.alloc (.cells #[.slice A' m c'] 90)):=(Below.refl _ _).alloc (Nat.le_refl _) _
 have hbs:=hg1.size
 have H1:=Lib.hid (h1.below hba)
 have G1:=Lib.hid (Got.of hg1 hba)
 have O1:=Lib.hid (own_below own1 hba)
 clear own1 h1 hg1 hba
 go_wp2_with fail
 refine (HN.out _ (HG.out _ G1.out) H1.out).mono ?_
 rintro e w3 ⟨rfl,h3,hg3⟩
 have G3:=Lib.hid (grown_trans G1.out hg3)
 have H3:=Lib.hid h3
 clear h3 hg3
 go_wp2_with fail
 refine (HN2.out _ (HG.out _ G3.out) H3.out).mono ?_
 rintro e w4 ⟨rfl,hg4⟩
 exact ⟨rfl,rfl,grown_trans G3.out hg4⟩
theorem values_when (s:ByteArray) (hs:s=ByteArray.mk #[119,104,101,110]) {l:List Int} {x y:Int} (hl:pList L k=some l) (hz:(L.getD k ⟨#[]⟩).size≤1048576) (hx:pNum L (k+1)=some x) (hy:pNum L (k+2)=some y):∃ R,ValR R s L k:=by
 obtain ⟨o,ho,H⟩:=vwhen_ex l x y (pList_len hl hz)
 refine ⟨some (o,k+3),fun _ _ e=>(by cases e;exact ho),fun w b A n c g h=>?_⟩
 have HL:=Lib.hid (wlist_ok g h hl)
 have hbl:=h.lt
 have h10:=h.2.2.2.2.1
 have q_sums:(s.toList == [115,117,109,115])=false:=lit_of hs
 have q_mean:(s.toList == [109,101,97,110])=false:=lit_of hs
 have q_spread:(s.toList == [115,112,114,101,97,100])=false:=lit_of hs
 have q_rank:(s.toList == [114,97,110,107])=false:=lit_of hs
 have q_cantelli:(s.toList == [99,97,110,116,101,108,108,105])=false:=lit_of hs
 have q_fade:(s.toList == [102,97,100,101])=false:=lit_of hs
 have q_level:(s.toList == [108,101,118,101,108])=false:=lit_of hs
 have hmf:=mkfun
 have qa:=alloc_cells
 have qf:=alloc_frozens
 obtain ⟨m,hm⟩:∃ m,l.length=m:=⟨_,rfl⟩
 have HG:=Lib.hid (fun w' (hg:Got b w w')=>g.grown hg h10)
 have HN:=Lib.hid (fun w' (g:GOK w') (h:WSt w' b A n c L (k+1))=>wnum_ok g h hx)
 have HN2:=Lib.hid (fun w' (g:GOK w') (h:WSt w' b A n c L (k+2))=>wnum_ok g h hy)
 have HH:=Lib.hid H
 rw [hm] at HL HH
 clear hs hl hx hy g h hm H ho
 go_enter Tryz.func28,Tryz.ntmps28
 go_wp2_with fail
 refine HL.out.mono ?_
 rintro e w1 ⟨⟨A',c',m0,rfl,hm0,own1⟩,h1,hg1⟩
 have hba:Below w1.heap.size w1 (w1.alloc (.cells #[.slice A' m c'] 90)):=(Below.refl _ _).alloc (Nat.le_refl _) _
 have hbs:=hg1.size
 have H1:=Lib.hid (h1.below hba)
 have G1:=Lib.hid (Got.of hg1 hba)
 have O1:=Lib.hid (own_below own1 hba)
 clear own1 h1 hg1 hba
 go_wp2_with fail
 refine (HN.out _ (HG.out _ G1.out) H1.out).mono ?_
 rintro e w3 ⟨rfl,h3,hg3⟩
 have lt1:w1.heap.size<(w1.alloc (.cells #[.slice A' m c'] 90)).heap.size:=by simp
 have k3:=(Got.cells hg3 (x:=w1.heap.size) (o:=0) lt1 (by omega)).1
 have z3:=hg3.size
 simp [qa] at k3 z3
 have G3:=Lib.hid (grown_trans G1.out hg3)
 have H3:=Lib.hid h3
 have O3:=Lib.hid (own_got O1.out hg3 (by omega))
 clear h3 hg3
 go_wp2_with fail
 refine (HN2.out _ (HG.out _ G3.out) H3.out).mono ?_
 rintro e w4 ⟨rfl,h4,hg4⟩
 have k4:=((Got.cells hg4 (x:=w1.heap.size) (o:=0) (by omega) (by omega)).1).trans k3
 have z4:=hg4.size
 have hbb:Below w4.heap.size w4 ((w4.alloc (.cells #[.int .i64 x] 3)).alloc (.cells #[.int .i64 y] 3)):=((Below.refl _ _).alloc (Nat.le_refl _) _).alloc (by simp) _
 have HK:=Lib.hid (⟨inRow_own (own_below (own_got O3.out hg4 (by omega)) hbb),h4.below hbb,Got.of (grown_trans G3.out hg4) hbb⟩:_∧_∧_)
 clear h4 hg4 hbb
 go_wp2_with fail
 refine bodyPost_ret (v:=.func (.func 73) #[] #[.pointer (some ⟨w1.heap.size,0,none⟩),.pointer (some ⟨w4.heap.size,0,none⟩),.pointer (some ⟨w4.heap.size+1,0,none⟩)]) (by simp [results,Tryz.results28,go_sem]) rfl ?_
 obtain ⟨hin,hws,hgot⟩:=HK.out
 refine ⟨_,rfl,⟨_,_,rfl,enters_of Tryz.func73 (by kernel_rfl) rfl,fun w2 hb2 g2=>?_⟩,hws,hgot⟩
 have lt5:w1.heap.size<((w4.alloc (.cells #[.int .i64 x] 3)).alloc (.cells #[.int .i64 y] 3)).heap.size:=by simp;omega
 have lt6:w4.heap.size<((w4.alloc (.cells #[.int .i64 x] 3)).alloc (.cells #[.int .i64 y] 3)).heap.size:=by simp;omega
 have lt7:w4.heap.size+1<((w4.alloc (.cells #[.int .i64 x] 3)).alloc (.cells #[.int .i64 y] 3)).heap.size:=by simp
 exact HH.out w2 w1.heap.size w4.heap.size (w4.heap.size+1) A' c' g2 (hin.below hb2) ((hb2.cell (p:=⟨w1.heap.size,0,none⟩) lt5).trans (by rw [qa,if_pos (by simp;omega),qa,if_pos (by omega)];exact k4)) (Nat.lt_of_lt_of_le lt5 hb2.size) ((hb2.cell (p:=⟨w4.heap.size,0,none⟩) lt6).trans (by rw [qa,if_pos (by simp),qa];simp)) (Nat.lt_of_lt_of_le lt6 hb2.size) ((hb2.cell (p:=⟨w4.heap.size+1,0,none⟩) lt7).trans (by rw [qa];simp)) (Nat.lt_of_lt_of_le lt7 hb2.size)
end Go.Proofs.YtnaebigoknfndaaGreatDoor
namespace Go.Proofs.YtnaebigoknfndaaGreatDoor
def IsRoot (a s:Int):Prop:=0≤s∧s * s≤a∧a<(s+1) * (s+1)
theorem sq_lt_of {a b:Int} (h0:0≤b) (h:a * a<b * b):a<b:=by
 rcases Int.lt_or_le a b with c | c
 ·exact c
 ·have:=Int.mul_le_mul c c h0 (by omega);omega
theorem isRoot_uniq {a s t:Int} (h:IsRoot a s) (h':IsRoot a t):s=t:=by
 obtain ⟨a1,a2,a3⟩:=h
 obtain ⟨b1,b2,b3⟩:=h'
 have c1:s<t+1:=sq_lt_of (by omega) (by omega)
 have c2:t<s+1:=sq_lt_of (by omega) (by omega)
 omega
theorem isRoot_ex (a:Int) (h:0≤a):∃ s,IsRoot a s:=by
 obtain ⟨k,rfl⟩:=Int.eq_ofNat_of_zero_le h
 clear h
 induction k with
 | zero=>exact ⟨0,by unfold IsRoot;omega⟩
 | succ k ih=>
  obtain ⟨s,s0,s1,s2⟩:=ih
  by_cases c:((k+1:Nat):Int)<(s+1) * (s+1)
  ·exact ⟨s,s0,by omega,c⟩
  ·refine ⟨s+1,by omega,by omega,?_⟩
   have e:(s+1+1) * (s+1+1)=(s+1) * (s+1)+2 * s+3:=by grind
   omega
theorem isRoot_small {a:Int} (h:0≤a) (h1:a<2):IsRoot a a:=by
 rcases (by omega:a=0∨a=1) with rfl | rfl
 ·unfold IsRoot;omega
 ·unfold IsRoot;omega
theorem newton_ge {a s x q:Int} (h:IsRoot a s) (hx:1≤x) (hq:a / x=q):s≤(q+x) / 2:=by
 obtain ⟨s0,s1,_⟩:=h
 have a0:0≤a:=Int.le_trans (Int.mul_nonneg s0 s0) s1
 have q0:0≤q:=by rw [← hq];exact Int.ediv_nonneg a0 (by omega)
 have e1:a<(q+1) * x:=by
  have:=Int.lt_ediv_add_one_mul_self a (show 0<x by omega)
  rwa [hq] at this
 have e2:(q+1 - x) * (q+1 - x)≥0:=sq_nonneg _
 have e3:(q+1+x) * (q+1+x)=(q+1 - x) * (q+1 - x)+4 * ((q+1) * x):=by grind
 have e4:(2 * s) * (2 * s)=4 * (s * s):=by grind
 have e5:2 * s<q+1+x:=sq_lt_of (by omega) (by omega)
 omega
theorem newton_end {a s x q:Int} (h:IsRoot a s) (hx:1≤x) (hs:s≤x) (hq:a / x=q) (he:x≤(q+x) / 2):x=s:=by
 have e1:x≤q:=by omega
 have e2:q * x≤a:=by rw [← hq];exact Int.ediv_mul_le a (by omega)
 have e3:x * x≤q * x:=Int.mul_le_mul_of_nonneg_right e1 (by omega)
 obtain ⟨s0,s1,s2⟩:=h
 have:x<s+1:=sq_lt_of (by omega) (by omega)
 omega
theorem isRoot_u64 {a s:Int} (h:IsRoot a s) (ha:U128 a):s≤18446744073709551615:=by
 obtain ⟨s0,s1,_⟩:=h
 unfold U128 at ha
 have:s<18446744073709551616:=sq_lt_of (by omega) (by omega)
 omega
theorem root_guess {a s:Int} (h:IsRoot a s) (ha:U128 a) (h2:1≤a):s≤2 ^ ((blen a+1) / 2).toNat:=by
 obtain ⟨k,e,l,u⟩:=blen_pos ha (by omega)
 obtain ⟨s0,s1,_⟩:=h
 rw [e]
 obtain ⟨m,hm⟩:∃ m:Nat,(((k:Int)+1+1) / 2).toNat=m:=⟨_,rfl⟩
 rw [hm]
 have hle:k+1≤m+m:=by omega
 have p:(2:Int) ^ (k+1)≤2 ^ m * 2 ^ m:=by
  rw [← Int.pow_add]
  rcases Nat.lt_or_eq_of_le hle with q | q
  ·have:=pow_lt_pow q;have:=p2 (k+1);omega
  ·rw [q];exact Int.le_refl _
 have:=p2 m
 have:s<2 ^ m:=sq_lt_of (by omega) (by omega)
 omega
end Go.Proofs.YtnaebigoknfndaaGreatDoor
namespace Go.Proofs.YtnaebigoknfndaaGreatDoor
open Go.RowKit
theorem root_small (a:Int) (h:a<2) (h0:0≤a) (w:World) :
  Calls Tryz.prog 27 #[.agg #[.int .u64 0,.int .u64 a]] w fun e w'=>e=.returned (.int .u64 a)∧Below w.heap.size w w':=by
 go_enter Tryz.func27,Tryz.ntmps27
 go_wp2_with fail
 go_ret
 exact ⟨rfl,(by repeat (first | (with_reducible exact Below.refl _ _) | (with_reducible refine bAl ?_ _) | (with_reducible refine bSc ?_ _) | (with_reducible refine Below.drew ?_) | (refine Below.trans ?_ (by assumption))))⟩
theorem root_big (a s:Int) {ah al:Int} (ha:Wd a ah al) (h2:2≤a) (hs:IsRoot a s) (w:World) :
  Calls Tryz.prog 27 #[.agg #[.int .u64 ah,.int .u64 al]] w fun e w'=>e=.returned (.int .u64 s)∧Below w.heap.size w w':=by
 have ua:=ha.1
 have s1:1≤s:=by
  obtain ⟨a0,a1,a2⟩:=hs
  rcases Int.lt_or_le 0 s with c | c
  ·omega
  ·obtain rfl:s=0:=by omega
   omega
 have su:=isRoot_u64 hs ua
 have hg:=root_guess hs ua (by omega)
 have lb:=blen_bd ua
 have hlen:=fun w=>len_any a ha w
 have hn:(¬ ah=0)∨(ah=0∧¬ al<2):=by
  obtain ⟨a1,rfl,rfl⟩:=ha
  unfold U128 hi lo at *;omega
 obtain ⟨B,hB⟩:∃ B,blen a=B:=⟨_,rfl⟩
 rw [hB] at hg lb
 have hx0:∃ x0:Int,s≤x0∧x0≤18446744073709551615∧((¬ B<127∧x0=18446744073709551615)∨(B<127∧IntKind.u64.wrap (2 ^ ((B+1) / 2).toNat)=x0)):=by
  by_cases c:B<127
  ·have p:=p2 ((B+1) / 2).toNat
   have q:(2:Int) ^ ((B+1) / 2).toNat≤2 ^ 63:=by
    rcases Nat.lt_or_eq_of_le (show ((B+1) / 2).toNat≤63 by omega) with q | q
    ·have:=pow_lt_pow q;omega
    ·rw [q];exact Int.le_refl _
   have e:(2:Int) ^ 63=9223372036854775808:=rfl
   refine ⟨2 ^ ((B+1) / 2).toNat,hg,by omega,.inr ⟨c,?_⟩⟩
   rw [IntKind.wrap_u64];omega
  ·exact ⟨_,su,Int.le_refl _,.inl ⟨c,rfl⟩⟩
 obtain ⟨x0,x1,x2,hx⟩:=hx0
 have hdiv:∀ x q r:Int,1≤x→x≤18446744073709551615→a / x=q→a % x=r→∀ w,_:=fun x q r h1 h2 hq hr w=>div_ok a x q r ha (Wd.lit (by unfold U64;omega)) (by omega) hq hr w
 have HS:=Lib.hid hs
 have HUa:=Lib.hid ua
 have HBB:=Lib.hid hB
 have HDv:=Lib.hid hdiv
 clear hs hg ha ua hB hdiv
 have qa:=alloc_cells
 have qf:=alloc_frozens
 rcases hn with hn | ⟨rfl,hn⟩
 ·have hnb:(ah==0)=false:=by simpa using hn
  have HLen:=Lib.hid hlen
  clear hlen
  rcases hx with ⟨hl,rfl⟩ | ⟨hl,hp⟩
  ·have hld:decide (B<127)=false:=by simpa using hl
   go_enter Tryz.func27,Tryz.ntmps27
   go_wp2_with fail
   refine (HLen.out _).mono ?_
   rintro e w1 ⟨rfl,hb1⟩
   rw [HBB.out]
   have z1:=hb1.size
   have c1:=Below.cells hb1
   have f1:=Below.frozens hb1
   try simp only [World.size_alloc,World.size_setCell,World.size_drew] at z1 c1 f1
   go_wp2_with fail
   go_loopw [3] (fun v wr=>∃ x:Int,v=.int .u64 x∧s≤x∧x≤18446744073709551615∧wr.cell? ⟨w.heap.size,0,none⟩=some (.int .u64 ah)∧wr.cell? ⟨w.heap.size,1,none⟩=some (.int .u64 al)∧w.heap.size+1≤wr.heap.size∧Below w.heap.size w wr) (fun v _=>(intOf v).toNat)
   case atStart=>exact ⟨_,rfl,x1,x2,by simp [go_sem,↓IntWalk.iteOmega, *],by simp [go_sem,↓IntWalk.iteOmega, *],by omega,(by repeat (first | (with_reducible exact Below.refl _ _) | (with_reducible refine bAl ?_ _) | (with_reducible refine bSc ?_ _) | (with_reducible refine Below.drew ?_) | (with_reducible refine bTm ?_ hb1)))⟩
   case round=>
    obtain ⟨x,rfl,xs,xu,k0,k1,sz,bel⟩:=hrel
    clear c1 f1 z1 hb1
    obtain ⟨q,hq⟩:∃ q,a / x=q:=⟨_,rfl⟩
    obtain ⟨r,hr⟩:∃ r,a % x=r:=⟨_,rfl⟩
    obtain ⟨y,hy⟩:∃ y,(q+x) / 2=y:=⟨_,rfl⟩
    have f0:=newton_ge HS.out (by omega) hq
    have f1:x≤y→x=s:=fun h=>newton_end HS.out (by omega) xs hq (by omega)
    have q0:0≤q:=by rw [← hq];exact Int.ediv_nonneg HUa.out.1 (by omega)
    have q1:q<340282366920938463463374607431768211455 - 18446744073709551615:=by
     have e1:a<(x+1) * (x+1):=by
      have:=HS.out.2.2
      have:(s+1) * (s+1)≤(x+1) * (x+1):=Int.mul_le_mul (by omega) (by omega) (by omega) (by omega)
      omega
     have e2:(x+1) * (x+1)=(x+2) * x+1:=by grind
     have e3:q<x+3:=by rw [← hq];exact Int.ediv_lt_of_lt_mul (by omega) (by rw [e2] at e1;rw [Int.add_mul] at e1 ⊢;omega)
     omega
    have uq:U128 q:=by unfold U128;omega
    have ux:U64 x:=by unfold U64;omega
    have uqx:U128 (q+x):=by unfold U128;omega
    have d1:∀ w,_:=fun w=>HDv.out x q r (by omega) xu hq hr w
    have d2:∀ w,_:=fun w=>add_ok q x (q+x) (Wd.mk uq) (Wd.lit ux) rfl uqx w
    have d3:∀ w,_:=fun w=>shr_any (q+x) 1 (Wd.mk uqx) w (by omega) (by omega)
    rw [show (2:Int) ^ (1:Int).toNat=2 from rfl,hy] at d3
    rw [hy] at f0
    have D1:=Lib.hid d1
    have D2:=Lib.hid d2
    have cs:(y<x∧hi y=0∧lo y=y)∨(x≤y∧hi y=0∧lo y=y)∨(x≤y∧0<hi y):=by unfold hi lo;omega
    clear d1 d2 hq hr hy uq ux uqx
    rcases cs with ⟨c,c1,c2⟩ | ⟨c,c1,c2⟩ | ⟨c,c1⟩
    ·rw [c1,c2] at d3
     have D3:=Lib.hid d3
     clear d3 c1 c2 f1
     go_wp2_with fail
     refine (D1.out _).mono ?_
     rintro e w3 ⟨rfl,hb3⟩
     have z3:=hb3.size
     have c3:=Below.cells hb3
     have f3:=Below.frozens hb3
     try simp only [World.size_alloc,World.size_setCell,World.size_drew] at z3 c3 f3
     go_wp2_with fail
     refine (D2.out _).mono ?_
     rintro e w4 ⟨rfl,hb4⟩
     have z4:=hb4.size
     have c4:=Below.cells hb4
     have f4:=Below.frozens hb4
     try simp only [World.size_alloc,World.size_setCell,World.size_drew] at z4 c4 f4
     go_wp2_with fail
     refine (D3.out _).mono ?_
     rintro e w5 ⟨rfl,hb5⟩
     have z5:=hb5.size
     have c5:=Below.cells hb5
     have f5:=Below.frozens hb5
     try simp only [World.size_alloc,World.size_setCell,World.size_drew] at z5 c5 f5
     go_wp2_with fail
     go_roundw
     case rel=>exact ⟨y,rfl,f0,by omega,by simp [go_sem,↓IntWalk.iteOmega, *],by simp [go_sem,↓IntWalk.iteOmega, *],by simp only [World.size_alloc,World.size_setCell];omega,(by repeat (first | (with_reducible exact Below.refl _ _) | (with_reducible refine bAl ?_ _) | (with_reducible refine bSc ?_ _) | (with_reducible refine Below.drew ?_) | (with_reducible refine bTm ?_ hb5) | (with_reducible refine bTm ?_ hb4) | (with_reducible refine bTm ?_ hb3) | (with_reducible exact bel)))⟩
     case measure=>simp [intOf];omega
    ·rw [c1,c2] at d3
     have D3:=Lib.hid d3
     clear d3 c1 c2
     obtain rfl:=f1 c
     go_wp2_with fail
     refine (D1.out _).mono ?_
     rintro e w3 ⟨rfl,hb3⟩
     have z3:=hb3.size
     have c3:=Below.cells hb3
     have f3:=Below.frozens hb3
     try simp only [World.size_alloc,World.size_setCell,World.size_drew] at z3 c3 f3
     go_wp2_with fail
     refine (D2.out _).mono ?_
     rintro e w4 ⟨rfl,hb4⟩
     have z4:=hb4.size
     have c4:=Below.cells hb4
     have f4:=Below.frozens hb4
     try simp only [World.size_alloc,World.size_setCell,World.size_drew] at z4 c4 f4
     go_wp2_with fail
     refine (D3.out _).mono ?_
     rintro e w5 ⟨rfl,hb5⟩
     have z5:=hb5.size
     have c5:=Below.cells hb5
     have f5:=Below.frozens hb5
     try simp only [World.size_alloc,World.size_setCell,World.size_drew] at z5 c5 f5
     go_wp2_with fail
     go_ret
     exact ⟨rfl,(by repeat (first | (with_reducible exact Below.refl _ _) | (with_reducible refine bAl ?_ _) | (with_reducible refine bSc ?_ _) | (with_reducible refine Below.drew ?_) | (with_reducible refine bTm ?_ hb5) | (with_reducible refine bTm ?_ hb4) | (with_reducible refine bTm ?_ hb3) | (with_reducible exact bel)))⟩
    ·have D3:=Lib.hid d3
     clear d3
     obtain rfl:=f1 c
     go_wp2_with fail
     refine (D1.out _).mono ?_
     rintro e w3 ⟨rfl,hb3⟩
     have z3:=hb3.size
     have c3:=Below.cells hb3
     have f3:=Below.frozens hb3
     try simp only [World.size_alloc,World.size_setCell,World.size_drew] at z3 c3 f3
     go_wp2_with fail
     refine (D2.out _).mono ?_
     rintro e w4 ⟨rfl,hb4⟩
     have z4:=hb4.size
     have c4:=Below.cells hb4
     have f4:=Below.frozens hb4
     try simp only [World.size_alloc,World.size_setCell,World.size_drew] at z4 c4 f4
     go_wp2_with fail
     refine (D3.out _).mono ?_
     rintro e w5 ⟨rfl,hb5⟩
     have z5:=hb5.size
     have c5:=Below.cells hb5
     have f5:=Below.frozens hb5
     try simp only [World.size_alloc,World.size_setCell,World.size_drew] at z5 c5 f5
     go_wp2_with fail
     go_ret
     exact ⟨rfl,(by repeat (first | (with_reducible exact Below.refl _ _) | (with_reducible refine bAl ?_ _) | (with_reducible refine bSc ?_ _) | (with_reducible refine Below.drew ?_) | (with_reducible refine bTm ?_ hb5) | (with_reducible refine bTm ?_ hb4) | (with_reducible refine bTm ?_ hb3) | (with_reducible exact bel)))⟩
  ·have hld:decide (B<127)=true:=by simpa using hl
   go_enter Tryz.func27,Tryz.ntmps27
   go_wp2_with fail
   refine (HLen.out _).mono ?_
   rintro e w1 ⟨rfl,hb1⟩
   rw [HBB.out]
   have z1:=hb1.size
   have c1:=Below.cells hb1
   have f1:=Below.frozens hb1
   try simp only [World.size_alloc,World.size_setCell,World.size_drew] at z1 c1 f1
   go_wp2_with fail
   refine (HLen.out _).mono ?_
   rintro e w2 ⟨rfl,hb2⟩
   rw [HBB.out]
   have z2:=hb2.size
   have c2:=Below.cells hb2
   have f2:=Below.frozens hb2
   try simp only [World.size_alloc,World.size_setCell,World.size_drew] at z2 c2 f2
   go_wp2_with fail
   go_loopw [3] (fun v wr=>∃ x:Int,v=.int .u64 x∧s≤x∧x≤18446744073709551615∧wr.cell? ⟨w.heap.size,0,none⟩=some (.int .u64 ah)∧wr.cell? ⟨w.heap.size,1,none⟩=some (.int .u64 al)∧w.heap.size+1≤wr.heap.size∧Below w.heap.size w wr) (fun v _=>(intOf v).toNat)
   case atStart=>exact ⟨_,rfl,x1,x2,by simp [go_sem,↓IntWalk.iteOmega, *],by simp [go_sem,↓IntWalk.iteOmega, *],by omega,(by repeat (first | (with_reducible exact Below.refl _ _) | (with_reducible refine bAl ?_ _) | (with_reducible refine bSc ?_ _) | (with_reducible refine Below.drew ?_) | (with_reducible refine bTm ?_ hb2) | (with_reducible refine bTm ?_ hb1)))⟩
   case round=>
    obtain ⟨x,rfl,xs,xu,k0,k1,sz,bel⟩:=hrel
    clear c1 f1 z1 hb1 c2 f2 z2 hb2
    obtain ⟨q,hq⟩:∃ q,a / x=q:=⟨_,rfl⟩
    obtain ⟨r,hr⟩:∃ r,a % x=r:=⟨_,rfl⟩
    obtain ⟨y,hy⟩:∃ y,(q+x) / 2=y:=⟨_,rfl⟩
    have f0:=newton_ge HS.out (by omega) hq
    have f1:x≤y→x=s:=fun h=>newton_end HS.out (by omega) xs hq (by omega)
    have q0:0≤q:=by rw [← hq];exact Int.ediv_nonneg HUa.out.1 (by omega)
    have q1:q<340282366920938463463374607431768211455 - 18446744073709551615:=by
     have e1:a<(x+1) * (x+1):=by
      have:=HS.out.2.2
      have:(s+1) * (s+1)≤(x+1) * (x+1):=Int.mul_le_mul (by omega) (by omega) (by omega) (by omega)
      omega
     have e2:(x+1) * (x+1)=(x+2) * x+1:=by grind
     have e3:q<x+3:=by rw [← hq];exact Int.ediv_lt_of_lt_mul (by omega) (by rw [e2] at e1;rw [Int.add_mul] at e1 ⊢;omega)
     omega
    have uq:U128 q:=by unfold U128;omega
    have ux:U64 x:=by unfold U64;omega
    have uqx:U128 (q+x):=by unfold U128;omega
    have d1:∀ w,_:=fun w=>HDv.out x q r (by omega) xu hq hr w
    have d2:∀ w,_:=fun w=>add_ok q x (q+x) (Wd.mk uq) (Wd.lit ux) rfl uqx w
    have d3:∀ w,_:=fun w=>shr_any (q+x) 1 (Wd.mk uqx) w (by omega) (by omega)
    rw [show (2:Int) ^ (1:Int).toNat=2 from rfl,hy] at d3
    rw [hy] at f0
    have D1:=Lib.hid d1
    have D2:=Lib.hid d2
    have cs:(y<x∧hi y=0∧lo y=y)∨(x≤y∧hi y=0∧lo y=y)∨(x≤y∧0<hi y):=by unfold hi lo;omega
    clear d1 d2 hq hr hy uq ux uqx
    rcases cs with ⟨c,c1,c2⟩ | ⟨c,c1,c2⟩ | ⟨c,c1⟩
    ·rw [c1,c2] at d3
     have D3:=Lib.hid d3
     clear d3 c1 c2 f1
     go_wp2_with fail
     refine (D1.out _).mono ?_
     rintro e w3 ⟨rfl,hb3⟩
     have z3:=hb3.size
     have c3:=Below.cells hb3
     have f3:=Below.frozens hb3
     try simp only [World.size_alloc,World.size_setCell,World.size_drew] at z3 c3 f3
     go_wp2_with fail
     refine (D2.out _).mono ?_
     rintro e w4 ⟨rfl,hb4⟩
     have z4:=hb4.size
     have c4:=Below.cells hb4
     have f4:=Below.frozens hb4
     try simp only [World.size_alloc,World.size_setCell,World.size_drew] at z4 c4 f4
     go_wp2_with fail
     refine (D3.out _).mono ?_
     rintro e w5 ⟨rfl,hb5⟩
     have z5:=hb5.size
     have c5:=Below.cells hb5
     have f5:=Below.frozens hb5
     try simp only [World.size_alloc,World.size_setCell,World.size_drew] at z5 c5 f5
     go_wp2_with fail
     go_roundw
     case rel=>exact ⟨y,rfl,f0,by omega,by simp [go_sem,↓IntWalk.iteOmega, *],by simp [go_sem,↓IntWalk.iteOmega, *],by simp only [World.size_alloc,World.size_setCell];omega,(by repeat (first | (with_reducible exact Below.refl _ _) | (with_reducible refine bAl ?_ _) | (with_reducible refine bSc ?_ _) | (with_reducible refine Below.drew ?_) | (with_reducible refine bTm ?_ hb5) | (with_reducible refine bTm ?_ hb4) | (with_reducible refine bTm ?_ hb3) | (with_reducible exact bel)))⟩
     case measure=>simp [intOf];omega
    ·rw [c1,c2] at d3
     have D3:=Lib.hid d3
     clear d3 c1 c2
     obtain rfl:=f1 c
     go_wp2_with fail
     refine (D1.out _).mono ?_
     rintro e w3 ⟨rfl,hb3⟩
     have z3:=hb3.size
     have c3:=Below.cells hb3
     have f3:=Below.frozens hb3
     try simp only [World.size_alloc,World.size_setCell,World.size_drew] at z3 c3 f3
     go_wp2_with fail
     refine (D2.out _).mono ?_
     rintro e w4 ⟨rfl,hb4⟩
     have z4:=hb4.size
     have c4:=Below.cells hb4
     have f4:=Below.frozens hb4
     try simp only [World.size_alloc,World.size_setCell,World.size_drew] at z4 c4 f4
     go_wp2_with fail
     refine (D3.out _).mono ?_
     rintro e w5 ⟨rfl,hb5⟩
     have z5:=hb5.size
     have c5:=Below.cells hb5
     have f5:=Below.frozens hb5
     try simp only [World.size_alloc,World.size_setCell,World.size_drew] at z5 c5 f5
     go_wp2_with fail
     go_ret
     exact ⟨rfl,(by repeat (first | (with_reducible exact Below.refl _ _) | (with_reducible refine bAl ?_ _) | (with_reducible refine bSc ?_ _) | (with_reducible refine Below.drew ?_) | (with_reducible refine bTm ?_ hb5) | (with_reducible refine bTm ?_ hb4) | (with_reducible refine bTm ?_ hb3) | (with_reducible exact bel)))⟩
    ·have D3:=Lib.hid d3
     clear d3
     obtain rfl:=f1 c
     go_wp2_with fail
     refine (D1.out _).mono ?_
     rintro e w3 ⟨rfl,hb3⟩
     have z3:=hb3.size
     have c3:=Below.cells hb3
     have f3:=Below.frozens hb3
     try simp only [World.size_alloc,World.size_setCell,World.size_drew] at z3 c3 f3
     go_wp2_with fail
     refine (D2.out _).mono ?_
     rintro e w4 ⟨rfl,hb4⟩
     have z4:=hb4.size
     have c4:=Below.cells hb4
     have f4:=Below.frozens hb4
     try simp only [World.size_alloc,World.size_setCell,World.size_drew] at z4 c4 f4
     go_wp2_with fail
     refine (D3.out _).mono ?_
     rintro e w5 ⟨rfl,hb5⟩
     have z5:=hb5.size
     have c5:=Below.cells hb5
     have f5:=Below.frozens hb5
     try simp only [World.size_alloc,World.size_setCell,World.size_drew] at z5 c5 f5
     go_wp2_with fail
     go_ret
     exact ⟨rfl,(by repeat (first | (with_reducible exact Below.refl _ _) | (with_reducible refine bAl ?_ _) | (with_reducible refine bSc ?_ _) | (with_reducible refine Below.drew ?_) | (with_reducible refine bTm ?_ hb5) | (with_reducible refine bTm ?_ hb4) | (with_reducible refine bTm ?_ hb3) | (with_reducible exact bel)))⟩
 ·have HLen:=Lib.hid hlen
  clear hlen
  rcases hx with ⟨hl,rfl⟩ | ⟨hl,hp⟩
  ·have hld:decide (B<127)=false:=by simpa using hl
   go_enter Tryz.func27,Tryz.ntmps27
   go_wp2_with fail
   refine (HLen.out _).mono ?_
   rintro e w1 ⟨rfl,hb1⟩
   rw [HBB.out]
   have z1:=hb1.size
   have c1:=Below.cells hb1
   have f1:=Below.frozens hb1
   try simp only [World.size_alloc,World.size_setCell,World.size_drew] at z1 c1 f1
   go_wp2_with fail
   go_loopw [3] (fun v wr=>∃ x:Int,v=.int .u64 x∧s≤x∧x≤18446744073709551615∧wr.cell? ⟨w.heap.size,0,none⟩=some (.int .u64 0)∧wr.cell? ⟨w.heap.size,1,none⟩=some (.int .u64 al)∧w.heap.size+1≤wr.heap.size∧Below w.heap.size w wr) (fun v _=>(intOf v).toNat)
   case atStart=>exact ⟨_,rfl,x1,x2,by simp [go_sem,↓IntWalk.iteOmega, *],by simp [go_sem,↓IntWalk.iteOmega, *],by omega,(by repeat (first | (with_reducible exact Below.refl _ _) | (with_reducible refine bAl ?_ _) | (with_reducible refine bSc ?_ _) | (with_reducible refine Below.drew ?_) | (with_reducible refine bTm ?_ hb1)))⟩
   case round=>
    obtain ⟨x,rfl,xs,xu,k0,k1,sz,bel⟩:=hrel
    clear c1 f1 z1 hb1
    obtain ⟨q,hq⟩:∃ q,a / x=q:=⟨_,rfl⟩
    obtain ⟨r,hr⟩:∃ r,a % x=r:=⟨_,rfl⟩
    obtain ⟨y,hy⟩:∃ y,(q+x) / 2=y:=⟨_,rfl⟩
    have f0:=newton_ge HS.out (by omega) hq
    have f1:x≤y→x=s:=fun h=>newton_end HS.out (by omega) xs hq (by omega)
    have q0:0≤q:=by rw [← hq];exact Int.ediv_nonneg HUa.out.1 (by omega)
    have q1:q<340282366920938463463374607431768211455 - 18446744073709551615:=by
     have e1:a<(x+1) * (x+1):=by
      have:=HS.out.2.2
      have:(s+1) * (s+1)≤(x+1) * (x+1):=Int.mul_le_mul (by omega) (by omega) (by omega) (by omega)
      omega
     have e2:(x+1) * (x+1)=(x+2) * x+1:=by grind
     have e3:q<x+3:=by rw [← hq];exact Int.ediv_lt_of_lt_mul (by omega) (by rw [e2] at e1;rw [Int.add_mul] at e1 ⊢;omega)
     omega
    have uq:U128 q:=by unfold U128;omega
    have ux:U64 x:=by unfold U64;omega
    have uqx:U128 (q+x):=by unfold U128;omega
    have d1:∀ w,_:=fun w=>HDv.out x q r (by omega) xu hq hr w
    have d2:∀ w,_:=fun w=>add_ok q x (q+x) (Wd.mk uq) (Wd.lit ux) rfl uqx w
    have d3:∀ w,_:=fun w=>shr_any (q+x) 1 (Wd.mk uqx) w (by omega) (by omega)
    rw [show (2:Int) ^ (1:Int).toNat=2 from rfl,hy] at d3
    rw [hy] at f0
    have D1:=Lib.hid d1
    have D2:=Lib.hid d2
    have cs:(y<x∧hi y=0∧lo y=y)∨(x≤y∧hi y=0∧lo y=y)∨(x≤y∧0<hi y):=by unfold hi lo;omega
    clear d1 d2 hq hr hy uq ux uqx
    rcases cs with ⟨c,c1,c2⟩ | ⟨c,c1,c2⟩ | ⟨c,c1⟩
    ·rw [c1,c2] at d3
     have D3:=Lib.hid d3
     clear d3 c1 c2 f1
     go_wp2_with fail
     refine (D1.out _).mono ?_
     rintro e w3 ⟨rfl,hb3⟩
     have z3:=hb3.size
     have c3:=Below.cells hb3
     have f3:=Below.frozens hb3
     try simp only [World.size_alloc,World.size_setCell,World.size_drew] at z3 c3 f3
     go_wp2_with fail
     refine (D2.out _).mono ?_
     rintro e w4 ⟨rfl,hb4⟩
     have z4:=hb4.size
     have c4:=Below.cells hb4
     have f4:=Below.frozens hb4
     try simp only [World.size_alloc,World.size_setCell,World.size_drew] at z4 c4 f4
     go_wp2_with fail
     refine (D3.out _).mono ?_
     rintro e w5 ⟨rfl,hb5⟩
     have z5:=hb5.size
     have c5:=Below.cells hb5
     have f5:=Below.frozens hb5
     try simp only [World.size_alloc,World.size_setCell,World.size_drew] at z5 c5 f5
     go_wp2_with fail
     go_roundw
     case rel=>exact ⟨y,rfl,f0,by omega,by simp [go_sem,↓IntWalk.iteOmega, *],by simp [go_sem,↓IntWalk.iteOmega, *],by simp only [World.size_alloc,World.size_setCell];omega,(by repeat (first | (with_reducible exact Below.refl _ _) | (with_reducible refine bAl ?_ _) | (with_reducible refine bSc ?_ _) | (with_reducible refine Below.drew ?_) | (with_reducible refine bTm ?_ hb5) | (with_reducible refine bTm ?_ hb4) | (with_reducible refine bTm ?_ hb3) | (with_reducible exact bel)))⟩
     case measure=>simp [intOf];omega
    ·rw [c1,c2] at d3
     have D3:=Lib.hid d3
     clear d3 c1 c2
     obtain rfl:=f1 c
     go_wp2_with fail
     refine (D1.out _).mono ?_
     rintro e w3 ⟨rfl,hb3⟩
     have z3:=hb3.size
     have c3:=Below.cells hb3
     have f3:=Below.frozens hb3
     try simp only [World.size_alloc,World.size_setCell,World.size_drew] at z3 c3 f3
     go_wp2_with fail
     refine (D2.out _).mono ?_
     rintro e w4 ⟨rfl,hb4⟩
     have z4:=hb4.size
     have c4:=Below.cells hb4
     have f4:=Below.frozens hb4
     try simp only [World.size_alloc,World.size_setCell,World.size_drew] at z4 c4 f4
     go_wp2_with fail
     refine (D3.out _).mono ?_
     rintro e w5 ⟨rfl,hb5⟩
     have z5:=hb5.size
     have c5:=Below.cells hb5
     have f5:=Below.frozens hb5
     try simp only [World.size_alloc,World.size_setCell,World.size_drew] at z5 c5 f5
     go_wp2_with fail
     go_ret
     exact ⟨rfl,(by repeat (first | (with_reducible exact Below.refl _ _) | (with_reducible refine bAl ?_ _) | (with_reducible refine bSc ?_ _) | (with_reducible refine Below.drew ?_) | (with_reducible refine bTm ?_ hb5) | (with_reducible refine bTm ?_ hb4) | (with_reducible refine bTm ?_ hb3) | (with_reducible exact bel)))⟩
    ·have D3:=Lib.hid d3
     clear d3
     obtain rfl:=f1 c
     go_wp2_with fail
     refine (D1.out _).mono ?_
     rintro e w3 ⟨rfl,hb3⟩
     have z3:=hb3.size
     have c3:=Below.cells hb3
     have f3:=Below.frozens hb3
     try simp only [World.size_alloc,World.size_setCell,World.size_drew] at z3 c3 f3
     go_wp2_with fail
     refine (D2.out _).mono ?_
     rintro e w4 ⟨rfl,hb4⟩
     have z4:=hb4.size
     have c4:=Below.cells hb4
     have f4:=Below.frozens hb4
     try simp only [World.size_alloc,World.size_setCell,World.size_drew] at z4 c4 f4
     go_wp2_with fail
     refine (D3.out _).mono ?_
     rintro e w5 ⟨rfl,hb5⟩
     have z5:=hb5.size
     have c5:=Below.cells hb5
     have f5:=Below.frozens hb5
     try simp only [World.size_alloc,World.size_setCell,World.size_drew] at z5 c5 f5
     go_wp2_with fail
     go_ret
     exact ⟨rfl,(by repeat (first | (with_reducible exact Below.refl _ _) | (with_reducible refine bAl ?_ _) | (with_reducible refine bSc ?_ _) | (with_reducible refine Below.drew ?_) | (with_reducible refine bTm ?_ hb5) | (with_reducible refine bTm ?_ hb4) | (with_reducible refine bTm ?_ hb3) | (with_reducible exact bel)))⟩
  ·have hld:decide (B<127)=true:=by simpa using hl
   go_enter Tryz.func27,Tryz.ntmps27
   go_wp2_with fail
   refine (HLen.out _).mono ?_
   rintro e w1 ⟨rfl,hb1⟩
   rw [HBB.out]
   have z1:=hb1.size
   have c1:=Below.cells hb1
   have f1:=Below.frozens hb1
   try simp only [World.size_alloc,World.size_setCell,World.size_drew] at z1 c1 f1
   go_wp2_with fail
   refine (HLen.out _).mono ?_
   rintro e w2 ⟨rfl,hb2⟩
   rw [HBB.out]
   have z2:=hb2.size
   have c2:=Below.cells hb2
   have f2:=Below.frozens hb2
   try simp only [World.size_alloc,World.size_setCell,World.size_drew] at z2 c2 f2
   go_wp2_with fail
   go_loopw [3] (fun v wr=>∃ x:Int,v=.int .u64 x∧s≤x∧x≤18446744073709551615∧wr.cell? ⟨w.heap.size,0,none⟩=some (.int .u64 0)∧wr.cell? ⟨w.heap.size,1,none⟩=some (.int .u64 al)∧w.heap.size+1≤wr.heap.size∧Below w.heap.size w wr) (fun v _=>(intOf v).toNat)
   case atStart=>exact ⟨_,rfl,x1,x2,by simp [go_sem,↓IntWalk.iteOmega, *],by simp [go_sem,↓IntWalk.iteOmega, *],by omega,(by repeat (first | (with_reducible exact Below.refl _ _) | (with_reducible refine bAl ?_ _) | (with_reducible refine bSc ?_ _) | (with_reducible refine Below.drew ?_) | (with_reducible refine bTm ?_ hb2) | (with_reducible refine bTm ?_ hb1)))⟩
   case round=>
    obtain ⟨x,rfl,xs,xu,k0,k1,sz,bel⟩:=hrel
    clear c1 f1 z1 hb1 c2 f2 z2 hb2
    obtain ⟨q,hq⟩:∃ q,a / x=q:=⟨_,rfl⟩
    obtain ⟨r,hr⟩:∃ r,a % x=r:=⟨_,rfl⟩
    obtain ⟨y,hy⟩:∃ y,(q+x) / 2=y:=⟨_,rfl⟩
    have f0:=newton_ge HS.out (by omega) hq
    have f1:x≤y→x=s:=fun h=>newton_end HS.out (by omega) xs hq (by omega)
    have q0:0≤q:=by rw [← hq];exact Int.ediv_nonneg HUa.out.1 (by omega)
    have q1:q<340282366920938463463374607431768211455 - 18446744073709551615:=by
     have e1:a<(x+1) * (x+1):=by
      have:=HS.out.2.2
      have:(s+1) * (s+1)≤(x+1) * (x+1):=Int.mul_le_mul (by omega) (by omega) (by omega) (by omega)
      omega
     have e2:(x+1) * (x+1)=(x+2) * x+1:=by grind
     have e3:q<x+3:=by rw [← hq];exact Int.ediv_lt_of_lt_mul (by omega) (by rw [e2] at e1;rw [Int.add_mul] at e1 ⊢;omega)
     omega
    have uq:U128 q:=by unfold U128;omega
    have ux:U64 x:=by unfold U64;omega
    have uqx:U128 (q+x):=by unfold U128;omega
    have d1:∀ w,_:=fun w=>HDv.out x q r (by omega) xu hq hr w
    have d2:∀ w,_:=fun w=>add_ok q x (q+x) (Wd.mk uq) (Wd.lit ux) rfl uqx w
    have d3:∀ w,_:=fun w=>shr_any (q+x) 1 (Wd.mk uqx) w (by omega) (by omega)
    rw [show (2:Int) ^ (1:Int).toNat=2 from rfl,hy] at d3
    rw [hy] at f0
    have D1:=Lib.hid d1
    have D2:=Lib.hid d2
    have cs:(y<x∧hi y=0∧lo y=y)∨(x≤y∧hi y=0∧lo y=y)∨(x≤y∧0<hi y):=by unfold hi lo;omega
    clear d1 d2 hq hr hy uq ux uqx
    rcases cs with ⟨c,c1,c2⟩ | ⟨c,c1,c2⟩ | ⟨c,c1⟩
    ·rw [c1,c2] at d3
     have D3:=Lib.hid d3
     clear d3 c1 c2 f1
     go_wp2_with fail
     refine (D1.out _).mono ?_
     rintro e w3 ⟨rfl,hb3⟩
     have z3:=hb3.size
     have c3:=Below.cells hb3
     have f3:=Below.frozens hb3
     try simp only [World.size_alloc,World.size_setCell,World.size_drew] at z3 c3 f3
     go_wp2_with fail
     refine (D2.out _).mono ?_
     rintro e w4 ⟨rfl,hb4⟩
     have z4:=hb4.size
     have c4:=Below.cells hb4
     have f4:=Below.frozens hb4
     try simp only [World.size_alloc,World.size_setCell,World.size_drew] at z4 c4 f4
     go_wp2_with fail
     refine (D3.out _).mono ?_
     rintro e w5 ⟨rfl,hb5⟩
     have z5:=hb5.size
     have c5:=Below.cells hb5
     have f5:=Below.frozens hb5
     try simp only [World.size_alloc,World.size_setCell,World.size_drew] at z5 c5 f5
     go_wp2_with fail
     go_roundw
     case rel=>exact ⟨y,rfl,f0,by omega,by simp [go_sem,↓IntWalk.iteOmega, *],by simp [go_sem,↓IntWalk.iteOmega, *],by simp only [World.size_alloc,World.size_setCell];omega,(by repeat (first | (with_reducible exact Below.refl _ _) | (with_reducible refine bAl ?_ _) | (with_reducible refine bSc ?_ _) | (with_reducible refine Below.drew ?_) | (with_reducible refine bTm ?_ hb5) | (with_reducible refine bTm ?_ hb4) | (with_reducible refine bTm ?_ hb3) | (with_reducible exact bel)))⟩
     case measure=>simp [intOf];omega
    ·rw [c1,c2] at d3
     have D3:=Lib.hid d3
     clear d3 c1 c2
     obtain rfl:=f1 c
     go_wp2_with fail
     refine (D1.out _).mono ?_
     rintro e w3 ⟨rfl,hb3⟩
     have z3:=hb3.size
     have c3:=Below.cells hb3
     have f3:=Below.frozens hb3
     try simp only [World.size_alloc,World.size_setCell,World.size_drew] at z3 c3 f3
     go_wp2_with fail
     refine (D2.out _).mono ?_
     rintro e w4 ⟨rfl,hb4⟩
     have z4:=hb4.size
     have c4:=Below.cells hb4
     have f4:=Below.frozens hb4
     try simp only [World.size_alloc,World.size_setCell,World.size_drew] at z4 c4 f4
     go_wp2_with fail
     refine (D3.out _).mono ?_
     rintro e w5 ⟨rfl,hb5⟩
     have z5:=hb5.size
     have c5:=Below.cells hb5
     have f5:=Below.frozens hb5
     try simp only [World.size_alloc,World.size_setCell,World.size_drew] at z5 c5 f5
     go_wp2_with fail
     go_ret
     exact ⟨rfl,(by repeat (first | (with_reducible exact Below.refl _ _) | (with_reducible refine bAl ?_ _) | (with_reducible refine bSc ?_ _) | (with_reducible refine Below.drew ?_) | (with_reducible refine bTm ?_ hb5) | (with_reducible refine bTm ?_ hb4) | (with_reducible refine bTm ?_ hb3) | (with_reducible exact bel)))⟩
    ·have D3:=Lib.hid d3
     clear d3
     obtain rfl:=f1 c
     go_wp2_with fail
     refine (D1.out _).mono ?_
     rintro e w3 ⟨rfl,hb3⟩
     have z3:=hb3.size
     have c3:=Below.cells hb3
     have f3:=Below.frozens hb3
     try simp only [World.size_alloc,World.size_setCell,World.size_drew] at z3 c3 f3
     go_wp2_with fail
     refine (D2.out _).mono ?_
     rintro e w4 ⟨rfl,hb4⟩
     have z4:=hb4.size
     have c4:=Below.cells hb4
     have f4:=Below.frozens hb4
     try simp only [World.size_alloc,World.size_setCell,World.size_drew] at z4 c4 f4
     go_wp2_with fail
     refine (D3.out _).mono ?_
     rintro e w5 ⟨rfl,hb5⟩
     have z5:=hb5.size
     have c5:=Below.cells hb5
     have f5:=Below.frozens hb5
     try simp only [World.size_alloc,World.size_setCell,World.size_drew] at z5 c5 f5
     go_wp2_with fail
     go_ret
     exact ⟨rfl,(by repeat (first | (with_reducible exact Below.refl _ _) | (with_reducible refine bAl ?_ _) | (with_reducible refine bSc ?_ _) | (with_reducible refine Below.drew ?_) | (with_reducible refine bTm ?_ hb5) | (with_reducible refine bTm ?_ hb4) | (with_reducible refine bTm ?_ hb3) | (with_reducible exact bel)))⟩
theorem root_ok (a s:Int) {ah al:Int} (ha:Wd a ah al) (hs:IsRoot a s) (w:World) :
  Calls Tryz.prog 27 #[.agg #[.int .u64 ah,.int .u64 al]] w fun e w'=>e=.returned (.int .u64 s)∧Below w.heap.size w w':=by
 by_cases h:a<2
 ·have h0:=ha.1.1
  obtain rfl:=isRoot_uniq hs (isRoot_small h0 h)
  obtain ⟨_,rfl,rfl⟩:=ha
  rw [show hi s=0 by unfold hi;omega,show lo s=s by unfold lo;omega]
  exact root_small s h h0 w
 ·exact root_big a s ha (by omega) hs w
end Go.Proofs.YtnaebigoknfndaaGreatDoor
namespace Go.Proofs.YtnaebigoknfndaaGreatDoor
open Go Go.RowKit
def ansW (w:World) (A:Option Addr) (n c:Nat):World:=(w.alloc (.cells #[.string ⟨#[]⟩] 9)).alloc (.cells #[.slice A n c,.int .i64 1] 61)
theorem ansW_size (w:World) (A:Option Addr) (n c:Nat):(ansW w A n c).heap.size=w.heap.size+2:=by simp [ansW]
theorem ansW_below (w:World) (A:Option Addr) (n c:Nat):Below w.heap.size w (ansW w A n c):=((Below.refl _ _).alloc (Nat.le_refl _) _).alloc (by simp) _
theorem ansW_facts {w w':World} {d:Nat} {S:DSt} {f:Nat→Prop} {A:Option Addr} {n c:Nat} (hD:DRep w d S f) (g:GOK w) (BB:Below (w.heap.size+1) (ansW w A n c) w') :
  w'.cell? ⟨w.heap.size,0,none⟩=some (.string ⟨#[]⟩)∧w'.frozen? ⟨w.heap.size,0,none⟩=false∧w.heap.size+1<w'.heap.size∧GOK w'∧LeftR w d S f w.heap.size w'∧Below w.heap.size w w':=by
 have h0:=BB.size
 rw [ansW_size] at h0
 have hb:Below w.heap.size w w':=(ansW_below w A n c).trans (BB.mono (by omega))
 refine ⟨(BB.cell (p:=⟨w.heap.size,0,none⟩) (show w.heap.size<w.heap.size+1 by omega)).trans ?_,(BB.frozen (p:=⟨w.heap.size,0,none⟩) (show w.heap.size<w.heap.size+1 by omega)).trans ?_,by omega,g.below hb g.low,LeftR.of_below hD hb (Nat.le_refl _),hb⟩
 ·unfold ansW
  rw [alloc_cells,if_pos (by simp),alloc_cells]
  simp
 ·unfold ansW
  rw [alloc_frozens,if_pos (by simp),alloc_frozens]
  simp
theorem wend_eq {w:World} {b n c k:Nat} {A:Option Addr} {L:List ByteArray} (h:WSt w b A n c L k) (hk:k=n):Calls Tryz.prog 25 #[.pointer (some ⟨b,0,none⟩)] w fun e w'=>e=.returned (.tuple #[])∧Below w.heap.size w w':=by subst hk;exact wend_ok h
def AnsIn (w:World) (A:Option Addr) (n c:Nat) (L:List ByteArray):Prop:=∀ j,j<n→∃ g off,A=some ⟨g,off,none⟩∧g<w.heap.size∧w.cell? ⟨g,off+j,none⟩=some (.string (L.getD j ⟨#[]⟩))∧(L.getD j ⟨#[]⟩).size≤1048576
theorem ansW_st {w:World} {A:Option Addr} {n c:Nat} {L:List ByteArray} (g:GOK w) (hn:L.length=n) (h0:0<n) (hn1:n≤1048576) (hrow:AnsIn w A n c L):WSt (ansW w A n c) (w.heap.size+1) A n c L 1:=by
 have hw0:=ansW_below w A n c
 refine ⟨?_,hn,by omega,hn1,by have:=g.low;omega,fun j hj=>?_⟩
 ·have:=heap_alloc_new' (w.alloc (.cells #[.string ⟨#[]⟩] 9)) (.cells #[.slice A n c,.int .i64 1] 61)
  simpa [ansW] using this
 ·obtain ⟨g1,off1,e1,h1,h2,h3⟩:=hrow j hj
  exact ⟨g1,off1,e1,by omega,(hw0.cell (p:=⟨g1,_,none⟩) h1).trans h2,h3⟩
theorem ans_wide2 (S:DSt) (L:List ByteArray) (s:ByteArray) (hs:L.getD 0 ⟨#[]⟩=s) (hL:0<L.length) (fw:FuncId) (hf:wideF s=some fw) {a:Nat} (hx:pGreat L 1=some a) (hy:pGreat L 2=none):AnsR S L (.err 11) S:=by
 intro w d f A n c g hD hn hn1 hrow
 have hmf:=mkfun
 have qa:=alloc_cells
 have qf:=alloc_frozens
 obtain ⟨g0,off,rfl,hg0,hc0,_⟩:=hrow 0 (by omega)
 rw [hs,Nat.add_zero] at hc0
 have HW:=Lib.hid (fun w'=>wides_ok s w')
 have hw1:wideV s=.func (.func fw) #[] #[]:=by unfold wideV;rw [hf]
 have hw2:(wideF s).isSome=true:=by rw [hf];rfl
 rw [hw1,hw2] at HW
 have HST:=Lib.hid (ansW_st (c:=c) g hn (by omega) hn1 hrow)
 have n0:(0:Int)<n:=by omega
 have HD:=Lib.hid hD
 have HG:=Lib.hid g
 have HHD:=Lib.hid (And.intro hD g)
 have N1:=Lib.hid (fun (w':World) (h:WSt w' (w.heap.size+1) (some ⟨g0,off,none⟩) n c L 1)=>wgreat_ok h hx)
 have N2:=Lib.hid (fun (w':World) (h:WSt w' (w.heap.size+1) (some ⟨g0,off,none⟩) n c L 2)=>wgreat_no h hy)
 clear hrow hD g hx hy hf hw1 hw2 hs hL hn hn1
 go_enter_defers Tryz.func13,Tryz.ntmps13
 go_wp2_with fail
 refine (HW.out _).mono ?_
 rintro e w1 ⟨rfl,hb1⟩
 have hs1:=HST.out.below hb1
 have BB1:Below (w.heap.size+1) (ansW w (some ⟨g0,off,none⟩) n c) w1:=Below.mono (show Below (ansW w (some ⟨g0,off,none⟩) n c).heap.size (ansW w (some ⟨g0,off,none⟩) n c) w1 from hb1) (by rw [ansW_size];omega)
 have B1:=Lib.hid BB1
 have S1:=Lib.hid hs1
 clear hb1 hs1 BB1
 go_wp2_with fail
 refine (N1.out _ S1.out).mono ?_
 rintro e w2 ⟨rfl,h2,hg2⟩
 have B2:=Lib.hid (B1.out.trans (Got.below hg2 S1.out.lt))
 have S2:=Lib.hid h2
 clear h2 hg2
 go_wp2_with fail
 refine (N2.out _ S2.out).mono ?_
 rintro e w3 ⟨rfl,hg3⟩
 obtain ⟨a1,a2,a3,a4,a5,_⟩:=ansW_facts HD.out HG.out (B2.out.trans (Got.below hg3 S2.out.lt))
 exact close_panic (Nat.le_refl _) rfl a1 a2 (by omega) a4 (by decide) a5
theorem ans_wide3 (S:DSt) (L:List ByteArray) (s:ByteArray) (hs:L.getD 0 ⟨#[]⟩=s) (hL:0<L.length) (fw:FuncId) (hf:wideF s=some fw) {a b:Nat} (hx:pGreat L 1=some a) (hy:pGreat L 2=some b) (h3:L.length≠3):AnsR S L (.err 11) S:=by
 intro w d f A n c g hD hn hn1 hrow
 have hmf:=mkfun
 have qa:=alloc_cells
 have qf:=alloc_frozens
 obtain ⟨g0,off,rfl,hg0,hc0,_⟩:=hrow 0 (by omega)
 rw [hs,Nat.add_zero] at hc0
 have HW:=Lib.hid (fun w'=>wides_ok s w')
 have hw1:wideV s=.func (.func fw) #[] #[]:=by unfold wideV;rw [hf]
 have hw2:(wideF s).isSome=true:=by rw [hf];rfl
 rw [hw1,hw2] at HW
 have HST:=Lib.hid (ansW_st (c:=c) g hn (by omega) hn1 hrow)
 have n0:(0:Int)<n:=by omega
 have HD:=Lib.hid hD
 have HG:=Lib.hid g
 have HHD:=Lib.hid (And.intro hD g)
 have N1:=Lib.hid (fun (w':World) (h:WSt w' (w.heap.size+1) (some ⟨g0,off,none⟩) n c L 1)=>wgreat_ok h hx)
 have N2:=Lib.hid (fun (w':World) (h:WSt w' (w.heap.size+1) (some ⟨g0,off,none⟩) n c L 2)=>wgreat_ok h hy)
 have NE:=Lib.hid (fun (w':World) (h:WSt w' (w.heap.size+1) (some ⟨g0,off,none⟩) n c L 3)=>wend_no h (by have:=h.2.2.1;omega))
 clear hrow hD g hx hy hf hw1 hw2 hs hL hn hn1 h3
 go_enter_defers Tryz.func13,Tryz.ntmps13
 go_wp2_with fail
 refine (HW.out _).mono ?_
 rintro e w1 ⟨rfl,hb1⟩
 have hs1:=HST.out.below hb1
 have BB1:Below (w.heap.size+1) (ansW w (some ⟨g0,off,none⟩) n c) w1:=Below.mono (show Below (ansW w (some ⟨g0,off,none⟩) n c).heap.size (ansW w (some ⟨g0,off,none⟩) n c) w1 from hb1) (by rw [ansW_size];omega)
 have B1:=Lib.hid BB1
 have S1:=Lib.hid hs1
 clear hb1 hs1 BB1
 go_wp2_with fail
 refine (N1.out _ S1.out).mono ?_
 rintro e w2 ⟨rfl,h2,hg2⟩
 have B2:=Lib.hid (B1.out.trans (Got.below hg2 S1.out.lt))
 have S2:=Lib.hid h2
 clear h2 hg2
 go_wp2_with fail
 refine (N2.out _ S2.out).mono ?_
 rintro e w3 ⟨rfl,h3,hg3⟩
 have B3:=Lib.hid (B2.out.trans (Got.below hg3 S2.out.lt))
 have S3:=Lib.hid h3
 clear h3 hg3
 go_wp2_with fail
 have hba:Below w3.heap.size w3 ((w3.alloc (.cells #[.int .u64 (hi a),.int .u64 (lo a)] 66)).alloc (.cells #[.int .u64 (hi b),.int .u64 (lo b)] 66)):=((Below.refl _ _).alloc (Nat.le_refl _) _).alloc (by simp) _
 refine (NE.out _ (S3.out.below hba)).mono ?_
 rintro e w4 ⟨rfl,hb4⟩
 have l3:=S3.out.lt
 obtain ⟨a1,a2,a3,a4,a5,_⟩:=ansW_facts HD.out HG.out ((B3.out.trans (hba.mono (by omega))).trans (hb4.mono (by simp;omega)))
 exact close_panic (Nat.le_refl _) rfl a1 a2 (by omega) a4 (by decide) a5
theorem ans_wide (S:DSt) (L:List ByteArray) (s:ByteArray) (hs:L.getD 0 ⟨#[]⟩=s) (hL:0<L.length) (fw:FuncId) (hf:wideF s=some fw) {a b:Nat} (hx:pGreat L 1=some a) (hy:pGreat L 2=some b) (h3:L.length=3):∃ o,OutOK o∧AnsR S L o S:=by
 have ua:U128 (a:Int):=by unfold pGreat at hx;split at hx;exact greatW_bd hx;cases hx
 have ub:U128 (b:Int):=by unfold pGreat at hy;split at hy;exact greatW_bd hy;cases hy
 obtain ⟨o,ho,H⟩:=wideF_ex hf ua ub
 have hent:=wideF_enters hf
 unfold EntersF at hent
 refine ⟨o,ho,?_⟩
 have HOk:=Lib.hid ho
 clear ho
 intro w d f A n c g hD hn hn1 hrow
 have hmf:=mkfun
 have qa:=alloc_cells
 have qf:=alloc_frozens
 obtain ⟨g0,off,rfl,hg0,hc0,_⟩:=hrow 0 (by omega)
 rw [hs,Nat.add_zero] at hc0
 have HW:=Lib.hid (fun w'=>wides_ok s w')
 have hw1:wideV s=.func (.func fw) #[] #[]:=by unfold wideV;rw [hf]
 have hw2:(wideF s).isSome=true:=by rw [hf];rfl
 rw [hw1,hw2] at HW
 have HST:=Lib.hid (ansW_st (c:=c) g hn (by omega) hn1 hrow)
 have n0:(0:Int)<n:=by omega
 have HD:=Lib.hid hD
 have HG:=Lib.hid g
 have HHD:=Lib.hid (And.intro hD g)
 have N1:=Lib.hid (fun (w':World) (h:WSt w' (w.heap.size+1) (some ⟨g0,off,none⟩) n c L 1)=>wgreat_ok h hx)
 have N2:=Lib.hid (fun (w':World) (h:WSt w' (w.heap.size+1) (some ⟨g0,off,none⟩) n c L 2)=>wgreat_ok h hy)
 have NE:=Lib.hid (fun (w':World) (h:WSt w' (w.heap.size+1) (some ⟨g0,off,none⟩) n c L 3)=>wend_eq h (by omega))
 have HC:=Lib.hid H
 clear hrow hD g hx hy hf hw1 hw2 hs hL hn hn1 h3 ua ub H
 go_enter_defers Tryz.func13,Tryz.ntmps13
 go_wp2_with fail
 refine (HW.out _).mono ?_
 rintro e w1 ⟨rfl,hb1⟩
 have hs1:=HST.out.below hb1
 have BB1:Below (w.heap.size+1) (ansW w (some ⟨g0,off,none⟩) n c) w1:=Below.mono (show Below (ansW w (some ⟨g0,off,none⟩) n c).heap.size (ansW w (some ⟨g0,off,none⟩) n c) w1 from hb1) (by rw [ansW_size];omega)
 have B1:=Lib.hid BB1
 have S1:=Lib.hid hs1
 clear hb1 hs1 BB1
 go_wp2_with fail
 refine (N1.out _ S1.out).mono ?_
 rintro e w2 ⟨rfl,h2,hg2⟩
 have B2:=Lib.hid (B1.out.trans (Got.below hg2 S1.out.lt))
 have S2:=Lib.hid h2
 clear h2 hg2
 go_wp2_with fail
 refine (N2.out _ S2.out).mono ?_
 rintro e w3 ⟨rfl,h3,hg3⟩
 have B3:=Lib.hid (B2.out.trans (Got.below hg3 S2.out.lt))
 have S3:=Lib.hid h3
 clear h3 hg3
 go_wp2_with fail
 have hba:Below w3.heap.size w3 ((w3.alloc (.cells #[.int .u64 (hi a),.int .u64 (lo a)] 66)).alloc (.cells #[.int .u64 (hi b),.int .u64 (lo b)] 66)):=((Below.refl _ _).alloc (Nat.le_refl _) _).alloc (by simp) _
 have l3:=S3.out.lt
 have HBA:=Lib.hid hba
 refine (NE.out _ (S3.out.below hba)).mono ?_
 rintro e w4 ⟨rfl,hb4⟩
 have c4:=Below.cells hb4
 have f4:=Below.frozens hb4
 have z4:=hb4.size
 simp only [World.size_alloc] at c4 f4 z4
 have B4:=Lib.hid ((B3.out.trans (hba.mono (by omega))).trans (hb4.mono (by simp;omega)))
 clear hba hb4
 go_wp2_with fail
 obtain ⟨a1,a2,a3,a4,a5,_⟩:=ansW_facts HD.out HG.out B4.out
 refine (HC.out _ a4).mono ?_
 rintro e w5 ⟨he,hb5⟩
 obtain ⟨y1,y2,y3,y4,y5,_⟩:=ansW_facts HD.out HG.out (B4.out.trans (hb5.mono (by omega)))
 clear a1 a2 a4 a5 c4 f4
 cases o with
 | err e1=>
  obtain rfl:e=Fault e1:=he
  exact close_panic (Nat.le_refl _) rfl y1 y2 (by omega) y4 HOk.out y5
 | txt tx=>
  obtain rfl:e=.returned (.string tx):=he
  go_wp2_with fail
  exact close_ret rfl (World.cell?_setCell_same _ _ _ y1) (y5.set (Nat.le_refl _) _ _)
end Go.Proofs.YtnaebigoknfndaaGreatDoor
