/- What the desk's two laws lean on: part 26 (contracts and plain laws; their conditions stand in each). -/
import Derived.Test.YtnaebigoknfndaaGreatDoorE01
import Derived.Test.YtnaebigoknfndaaGreatDoorE25
import Derived.Test.YtnaebigoknfndaaGreatDoorE24
import Derived.Lib.CutLaws
set_option linter.unusedVariables false
set_option linter.unusedSimpArgs false
set_option maxRecDepth 100000
set_option maxHeartbeats 20000000
namespace Go.Proofs.YtnaebigoknfndaaGreatDoor
open Go Go.RowKit
theorem ans_left {w w3 w4:World} {d:Nat} {S S':DSt} {f:Nat→Prop} {o:Out} {e:Ending} {A:Option Addr} {n c:Nat} (hD:DRep w d S f) (g:GOK w) (BB:Below (w.heap.size+1) (ansW w A n c) w3) (h:Done o d S' f w3 e w4) :
  w4.cell? ⟨w.heap.size,0,none⟩=some (.string ⟨#[]⟩)∧w4.frozen? ⟨w.heap.size,0,none⟩=false∧w.heap.size<w4.heap.size∧GOK w4∧LeftR w d S' f w.heap.size w4:=by
 obtain ⟨a1,a2,a3,a4,_,a6⟩:=ansW_facts hD g BB
 obtain ⟨_,f',h1,h2,h3⟩:=h
 have hlt:=hD.lt
 have hnf:¬ f w.heap.size:=fun e=>by have:=(hlt _ e).2;omega
 have e1:=h3.block w.heap.size (by omega) hnf
 have hs:=h3.size
 have hs6:=a6.size
 refine ⟨(World.cell?_of_block (a:=⟨w.heap.size,0,none⟩) e1).trans a1,(World.frozen?_of_block e1).trans a2,by omega,a4.kept h3 (fun x hx=>(hlt x hx).1),f',h1,fun x hx=>?_,(Kept.of_below (f:=f) a6).trans h3 (fun x _ hx=>hx),fun e=>?_⟩
 ·rcases h2 x hx with k | k
  ·exact .inl k
  ·exact .inr (by omega)
 ·rcases h2 _ e with k | k
  ·exact hnf k
  ·omega
theorem ans_root1 (S:DSt) (L:List ByteArray) (s:ByteArray) (hs:L.getD 0 ⟨#[]⟩=s) (hL:0<L.length) (hf:wideF s=none) (hq0:(s.toList == [114,111,111,116])=true) (hx:pGreat L 1=none):AnsR S L (.err 11) S:=by
 intro w d f A n c g hD hn hn1 hrow
 have hmf:=mkfun
 have qa:=alloc_cells
 have qf:=alloc_frozens
 obtain ⟨g0,off,rfl,hg0,hc0,_⟩:=hrow 0 (by omega)
 rw [hs,Nat.add_zero] at hc0
 have HW:=Lib.hid (fun w'=>wides_ok s w')
 have hw1:wideV s=.nilFunc:=by unfold wideV;rw [hf]
 have hw2:(wideF s).isSome=false:=by rw [hf];rfl
 rw [hw1,hw2] at HW
 have HST:=Lib.hid (ansW_st (c:=c) g hn (by omega) hn1 hrow)
 have n0:(0:Int)<n:=by omega
 have HD:=Lib.hid hD
 have HG:=Lib.hid g
 have HHD:=Lib.hid (And.intro hD g)
 have N1:=Lib.hid (fun (w':World) (h:WSt w' (w.heap.size+1) (some ⟨g0,off,none⟩) n c L 1)=>wgreat_no h hx)
 clear hrow hD g hx hf hw1 hw2 hs hL hn hn1
 go_enter_defers Tryz.func13,Tryz.ntmps13
 go_wp2_with fail
 refine (HW.out _).mono ?_
 rintro e w1 ⟨rfl,hb1⟩
 have hs1:=HST.out.below hb1
 have BB1:Below (w.heap.size+1) (ansW w (some ⟨g0,off,none⟩) n c) w1:=Below.mono (show Below (ansW w (some ⟨g0,off,none⟩) n c).heap.size (ansW w (some ⟨g0,off,none⟩) n c) w1 from hb1) (by rw [ansW_size];omega)
 have B1:=Lib.hid BB1
 have S1:=Lib.hid hs1
 clear hb1 hs1 BB1
 go_wp2_with fail
 refine (N1.out _ S1.out).mono ?_
 rintro e w2 ⟨rfl,hg2⟩
 obtain ⟨a1,a2,a3,a4,a5,_⟩:=ansW_facts HD.out HG.out (B1.out.trans (Got.below hg2 S1.out.lt))
 exact close_panic (Nat.le_refl _) rfl a1 a2 (by omega) a4 (by decide) a5
theorem ans_root2 (S:DSt) (L:List ByteArray) (s:ByteArray) (hs:L.getD 0 ⟨#[]⟩=s) (hL:0<L.length) (hf:wideF s=none) (hq0:(s.toList == [114,111,111,116])=true) {a:Nat} (hx:pGreat L 1=some a) (h3:L.length≠2):AnsR S L (.err 11) S:=by
 intro w d f A n c g hD hn hn1 hrow
 have hmf:=mkfun
 have qa:=alloc_cells
 have qf:=alloc_frozens
 obtain ⟨g0,off,rfl,hg0,hc0,_⟩:=hrow 0 (by omega)
 rw [hs,Nat.add_zero] at hc0
 have HW:=Lib.hid (fun w'=>wides_ok s w')
 have hw1:wideV s=.nilFunc:=by unfold wideV;rw [hf]
 have hw2:(wideF s).isSome=false:=by rw [hf];rfl
 rw [hw1,hw2] at HW
 have HST:=Lib.hid (ansW_st (c:=c) g hn (by omega) hn1 hrow)
 have n0:(0:Int)<n:=by omega
 have HD:=Lib.hid hD
 have HG:=Lib.hid g
 have HHD:=Lib.hid (And.intro hD g)
 have N1:=Lib.hid (fun (w':World) (h:WSt w' (w.heap.size+1) (some ⟨g0,off,none⟩) n c L 1)=>wgreat_ok h hx)
 have NE:=Lib.hid (fun (w':World) (h:WSt w' (w.heap.size+1) (some ⟨g0,off,none⟩) n c L 2)=>wend_no h (by have:=h.2.2.1;omega))
 clear hrow hD g hx hf hw1 hw2 hs hL hn hn1 h3
 go_enter_defers Tryz.func13,Tryz.ntmps13
 go_wp2_with fail
 refine (HW.out _).mono ?_
 rintro e w1 ⟨rfl,hb1⟩
 have hs1:=HST.out.below hb1
 have BB1:Below (w.heap.size+1) (ansW w (some ⟨g0,off,none⟩) n c) w1:=Below.mono (show Below (ansW w (some ⟨g0,off,none⟩) n c).heap.size (ansW w (some ⟨g0,off,none⟩) n c) w1 from hb1) (by rw [ansW_size];omega)
 have B1:=Lib.hid BB1
 have S1:=Lib.hid hs1
 clear hb1 hs1 BB1
 go_wp2_with fail
 refine (N1.out _ S1.out).mono ?_
 rintro e w2 ⟨rfl,h2,hg2⟩
 have B2:=Lib.hid (B1.out.trans (Got.below hg2 S1.out.lt))
 have S2:=Lib.hid h2
 clear h2 hg2
 go_wp2_with fail
 have hba:Below w2.heap.size w2 (w2.alloc (.cells #[.int .u64 (hi a),.int .u64 (lo a)] 66)):=(Below.refl _ _).alloc (Nat.le_refl _) _
 refine (NE.out _ (S2.out.below hba)).mono ?_
 rintro e w4 ⟨rfl,hb4⟩
 have l3:=S2.out.lt
 obtain ⟨a1,a2,a3,a4,a5,_⟩:=ansW_facts HD.out HG.out ((B2.out.trans (hba.mono (by omega))).trans (hb4.mono (by simp;omega)))
 exact close_panic (Nat.le_refl _) rfl a1 a2 (by omega) a4 (by decide) a5
theorem ans_root (S:DSt) (L:List ByteArray) (s:ByteArray) (hs:L.getD 0 ⟨#[]⟩=s) (hL:0<L.length) (hf:wideF s=none) (hq0:(s.toList == [114,111,111,116])=true) {a:Nat} (hx:pGreat L 1=some a) (h3:L.length=2) (r:Nat) (hr:IsRoot (a:Int) (r:Int)) (hr6:(r:Int)<18446744073709551616):AnsR S L (.txt (grT [r])) S:=by
 have ua:U128 (a:Int):=by unfold pGreat at hx;split at hx;exact greatW_bd hx;cases hx
 intro w d f A n c g hD hn hn1 hrow
 have hmf:=mkfun
 have qa:=alloc_cells
 have qf:=alloc_frozens
 obtain ⟨g0,off,rfl,hg0,hc0,_⟩:=hrow 0 (by omega)
 rw [hs,Nat.add_zero] at hc0
 have HW:=Lib.hid (fun w'=>wides_ok s w')
 have hw1:wideV s=.nilFunc:=by unfold wideV;rw [hf]
 have hw2:(wideF s).isSome=false:=by rw [hf];rfl
 rw [hw1,hw2] at HW
 have HST:=Lib.hid (ansW_st (c:=c) g hn (by omega) hn1 hrow)
 have n0:(0:Int)<n:=by omega
 have HD:=Lib.hid hD
 have HG:=Lib.hid g
 have HHD:=Lib.hid (And.intro hD g)
 have N1:=Lib.hid (fun (w':World) (h:WSt w' (w.heap.size+1) (some ⟨g0,off,none⟩) n c L 1)=>wgreat_ok h hx)
 have NE:=Lib.hid (fun (w':World) (h:WSt w' (w.heap.size+1) (some ⟨g0,off,none⟩) n c L 2)=>wend_eq h (by omega))
 have HR:=Lib.hid (fun w'=>root_ok (a:Int) r (Wd.mk ua) hr w')
 have HT:=Lib.hid (fun (b:Nat) w' (h:GRow w' b 1 [r])=>great_told b 1 1 [r] w' h (by omega) (fun y hy=>by rw [List.mem_singleton.1 hy];exact (Wd.lit (l:=(r:Int)) ⟨by omega,hr6⟩).1))
 have HRw:=Lib.hid (fun b (w':World) (hb:b=w'.heap.size)=>(show GRow (w'.alloc (.cells #[.int .u64 0,.int .u64 r] 66)) b 1 [r] from by
  have e:=Wd.lit (l:=(r:Int)) ⟨by omega,hr6⟩
  have:=gRow_one w' 66 r
  rw [← e.2.1,← e.2.2] at this
  rw [hb];exact this))
 clear hrow hD g hx hf hw1 hw2 hs hL hn hn1 h3 hr hr6 ua
 go_enter_defers Tryz.func13,Tryz.ntmps13
 go_wp2_with fail
 refine (HW.out _).mono ?_
 rintro e w1 ⟨rfl,hb1⟩
 have hs1:=HST.out.below hb1
 have BB1:Below (w.heap.size+1) (ansW w (some ⟨g0,off,none⟩) n c) w1:=Below.mono (show Below (ansW w (some ⟨g0,off,none⟩) n c).heap.size (ansW w (some ⟨g0,off,none⟩) n c) w1 from hb1) (by rw [ansW_size];omega)
 have B1:=Lib.hid BB1
 have S1:=Lib.hid hs1
 clear hb1 hs1 BB1
 go_wp2_with fail
 refine (N1.out _ S1.out).mono ?_
 rintro e w2 ⟨rfl,h2,hg2⟩
 have B2:=Lib.hid (B1.out.trans (Got.below hg2 S1.out.lt))
 have S2:=Lib.hid h2
 clear h2 hg2
 go_wp2_with fail
 have hba:Below w2.heap.size w2 (w2.alloc (.cells #[.int .u64 (hi a),.int .u64 (lo a)] 66)):=(Below.refl _ _).alloc (Nat.le_refl _) _
 have l3:=S2.out.lt
 refine (NE.out _ (S2.out.below hba)).mono ?_
 rintro e w4 ⟨rfl,hb4⟩
 have c4:=Below.cells hb4
 have f4:=Below.frozens hb4
 have z4:=hb4.size
 simp only [World.size_alloc] at c4 f4 z4
 have B4:=Lib.hid ((B2.out.trans (hba.mono (by omega))).trans (hb4.mono (by simp;omega)))
 clear hba hb4
 go_wp2_with fail
 refine (HR.out _).mono ?_
 rintro e w5 ⟨rfl,hb5⟩
 have B5:=Lib.hid (B4.out.trans (hb5.mono (by omega)))
 have z5:=hb5.size
 clear hb5 c4 f4
 go_wp2_with fail
 have hbc:Below w5.heap.size w5 (w5.alloc (.cells #[.int .u64 0,.int .u64 r] 66)):=(Below.refl _ _).alloc (Nat.le_refl _) _
 refine (HT.out _ _ (HRw.out _ _ (by simp))).mono ?_
 rintro e w6 ⟨rfl,hb6⟩
 obtain ⟨y1,y2,y3,y4,y5,_⟩:=ansW_facts HD.out HG.out ((B5.out.trans (hbc.mono (by omega))).trans (hb6.mono (by simp;omega)))
 clear hb6 hbc
 go_wp2_with fail
 exact close_ret rfl (World.cell?_setCell_same _ _ _ y1) (y5.set (Nat.le_refl _) _ _)
theorem ans_val_none (S:DSt) (L:List ByteArray) (s:ByteArray) (hs:L.getD 0 ⟨#[]⟩=s) (hL:0<L.length) (hf:wideF s=none) (hq0:(s.toList == [114,111,111,116])=false) (hq:((s.toList == [115,117,109,115])=true)∨((s.toList == [115,117,109,115])=false∧(s.toList == [109,101,97,110])=true)∨((s.toList == [115,117,109,115])=false∧(s.toList == [109,101,97,110])=false∧(s.toList == [115,112,114,101,97,100])=true)∨((s.toList == [115,117,109,115])=false∧(s.toList == [109,101,97,110])=false∧(s.toList == [115,112,114,101,97,100])=false∧(s.toList == [114,97,110,107])=true)∨((s.toList == [115,117,109,115])=false∧(s.toList == [109,101,97,110])=false∧(s.toList == [115,112,114,101,97,100])=false∧(s.toList == [114,97,110,107])=false∧(s.toList == [99,97,110,116,101,108,108,105])=true)∨((s.toList == [115,117,109,115])=false∧(s.toList == [109,101,97,110])=false∧(s.toList == [115,112,114,101,97,100])=false∧(s.toList == [114,97,110,107])=false∧(s.toList == [99,97,110,116,101,108,108,105])=false∧(s.toList == [102,97,100,101])=true)∨((s.toList == [115,117,109,115])=false∧(s.toList == [109,101,97,110])=false∧(s.toList == [115,112,114,101,97,100])=false∧(s.toList == [114,97,110,107])=false∧(s.toList == [99,97,110,116,101,108,108,105])=false∧(s.toList == [102,97,100,101])=false∧(s.toList == [108,101,118,101,108])=true)∨((s.toList == [115,117,109,115])=false∧(s.toList == [109,101,97,110])=false∧(s.toList == [115,112,114,101,97,100])=false∧(s.toList == [114,97,110,107])=false∧(s.toList == [99,97,110,116,101,108,108,105])=false∧(s.toList == [102,97,100,101])=false∧(s.toList == [108,101,118,101,108])=false∧(s.toList == [119,104,101,110])=true)) (hR:ValR none s L 1):AnsR S L (.err 11) S:=by
 intro w d f A n c g hD hn hn1 hrow
 have hmf:=mkfun
 have qa:=alloc_cells
 have qf:=alloc_frozens
 obtain ⟨g0,off,rfl,hg0,hc0,_⟩:=hrow 0 (by omega)
 rw [hs,Nat.add_zero] at hc0
 have HW:=Lib.hid (fun w'=>wides_ok s w')
 have hw1:wideV s=.nilFunc:=by unfold wideV;rw [hf]
 have hw2:(wideF s).isSome=false:=by rw [hf];rfl
 rw [hw1,hw2] at HW
 have HST:=Lib.hid (ansW_st (c:=c) g hn (by omega) hn1 hrow)
 have n0:(0:Int)<n:=by omega
 have HD:=Lib.hid hD
 have HG:=Lib.hid g
 have HHD:=Lib.hid (And.intro hD g)
 have NV:=Lib.hid (fun (w':World) (h:WSt w' (w.heap.size+1) (some ⟨g0,off,none⟩) n c L 1) (g:GOK w')=>hR.2 w' _ _ _ _ g h)
 clear hrow hD g hf hw1 hw2 hs hL hn hn1 hR
 go_enter_defers Tryz.func13,Tryz.ntmps13
 go_wp2_with fail
 refine (HW.out _).mono ?_
 rintro e w1 ⟨rfl,hb1⟩
 have hs1:=HST.out.below hb1
 have BB1:Below (w.heap.size+1) (ansW w (some ⟨g0,off,none⟩) n c) w1:=Below.mono (show Below (ansW w (some ⟨g0,off,none⟩) n c).heap.size (ansW w (some ⟨g0,off,none⟩) n c) w1 from hb1) (by rw [ansW_size];omega)
 have B1:=Lib.hid BB1
 have S1:=Lib.hid hs1
 clear hb1 hs1 BB1
 rcases hq with u0 | ⟨u0,u1⟩ | ⟨u0,u1,u2⟩ | ⟨u0,u1,u2,u3⟩ | ⟨u0,u1,u2,u3,u4⟩ | ⟨u0,u1,u2,u3,u4,u5⟩ | ⟨u0,u1,u2,u3,u4,u5,u6⟩ | ⟨u0,u1,u2,u3,u4,u5,u6,u7⟩
 all_goals
  go_wp2_with fail
  obtain ⟨_,_,_,g1,_,b1⟩:=ansW_facts HD.out HG.out B1.out
  refine (NV.out _ S1.out g1).mono ?_
  rintro e w2 ⟨rfl,hg2⟩
  obtain ⟨a1,a2,a3,a4,a5,_⟩:=ansW_facts HD.out HG.out (B1.out.trans (Got.below hg2 S1.out.lt))
  exact close_panic (Nat.le_refl _) rfl a1 a2 (by omega) a4 (by decide) a5
theorem ans_val_short (S:DSt) (L:List ByteArray) (s:ByteArray) (hs:L.getD 0 ⟨#[]⟩=s) (hL:0<L.length) (hf:wideF s=none) (hq0:(s.toList == [114,111,111,116])=false) (hq:((s.toList == [115,117,109,115])=true)∨((s.toList == [115,117,109,115])=false∧(s.toList == [109,101,97,110])=true)∨((s.toList == [115,117,109,115])=false∧(s.toList == [109,101,97,110])=false∧(s.toList == [115,112,114,101,97,100])=true)∨((s.toList == [115,117,109,115])=false∧(s.toList == [109,101,97,110])=false∧(s.toList == [115,112,114,101,97,100])=false∧(s.toList == [114,97,110,107])=true)∨((s.toList == [115,117,109,115])=false∧(s.toList == [109,101,97,110])=false∧(s.toList == [115,112,114,101,97,100])=false∧(s.toList == [114,97,110,107])=false∧(s.toList == [99,97,110,116,101,108,108,105])=true)∨((s.toList == [115,117,109,115])=false∧(s.toList == [109,101,97,110])=false∧(s.toList == [115,112,114,101,97,100])=false∧(s.toList == [114,97,110,107])=false∧(s.toList == [99,97,110,116,101,108,108,105])=false∧(s.toList == [102,97,100,101])=true)∨((s.toList == [115,117,109,115])=false∧(s.toList == [109,101,97,110])=false∧(s.toList == [115,112,114,101,97,100])=false∧(s.toList == [114,97,110,107])=false∧(s.toList == [99,97,110,116,101,108,108,105])=false∧(s.toList == [102,97,100,101])=false∧(s.toList == [108,101,118,101,108])=true)∨((s.toList == [115,117,109,115])=false∧(s.toList == [109,101,97,110])=false∧(s.toList == [115,112,114,101,97,100])=false∧(s.toList == [114,97,110,107])=false∧(s.toList == [99,97,110,116,101,108,108,105])=false∧(s.toList == [102,97,100,101])=false∧(s.toList == [108,101,118,101,108])=false∧(s.toList == [119,104,101,110])=true)) {o:Out} {k:Nat} (hR:ValR (some (o,k)) s L 1) (hk:k≠L.length):AnsR S L (.err 11) S:=by
 intro w d f A n c g hD hn hn1 hrow
 have hmf:=mkfun
 have qa:=alloc_cells
 have qf:=alloc_frozens
 obtain ⟨g0,off,rfl,hg0,hc0,_⟩:=hrow 0 (by omega)
 rw [hs,Nat.add_zero] at hc0
 have HW:=Lib.hid (fun w'=>wides_ok s w')
 have hw1:wideV s=.nilFunc:=by unfold wideV;rw [hf]
 have hw2:(wideF s).isSome=false:=by rw [hf];rfl
 rw [hw1,hw2] at HW
 have HST:=Lib.hid (ansW_st (c:=c) g hn (by omega) hn1 hrow)
 have n0:(0:Int)<n:=by omega
 have HD:=Lib.hid hD
 have HG:=Lib.hid g
 have HHD:=Lib.hid (And.intro hD g)
 have NV:=Lib.hid (fun (w':World) (h:WSt w' (w.heap.size+1) (some ⟨g0,off,none⟩) n c L 1) (g:GOK w')=>hR.2 w' _ _ _ _ g h)
 have NE:=Lib.hid (fun (w':World) (h:WSt w' (w.heap.size+1) (some ⟨g0,off,none⟩) n c L k)=>wend_no h (by have:=h.2.2.1;omega))
 clear hrow hD g hf hw1 hw2 hs hL hn hn1 hR hk
 go_enter_defers Tryz.func13,Tryz.ntmps13
 go_wp2_with fail
 refine (HW.out _).mono ?_
 rintro e w1 ⟨rfl,hb1⟩
 have hs1:=HST.out.below hb1
 have BB1:Below (w.heap.size+1) (ansW w (some ⟨g0,off,none⟩) n c) w1:=Below.mono (show Below (ansW w (some ⟨g0,off,none⟩) n c).heap.size (ansW w (some ⟨g0,off,none⟩) n c) w1 from hb1) (by rw [ansW_size];omega)
 have B1:=Lib.hid BB1
 have S1:=Lib.hid hs1
 clear hb1 hs1 BB1
 rcases hq with u0 | ⟨u0,u1⟩ | ⟨u0,u1,u2⟩ | ⟨u0,u1,u2,u3⟩ | ⟨u0,u1,u2,u3,u4⟩ | ⟨u0,u1,u2,u3,u4,u5⟩ | ⟨u0,u1,u2,u3,u4,u5,u6⟩ | ⟨u0,u1,u2,u3,u4,u5,u6,u7⟩
 all_goals
  go_wp2_with fail
  obtain ⟨_,_,_,g1,_,b1⟩:=ansW_facts HD.out HG.out B1.out
  refine (NV.out _ S1.out g1).mono ?_
  rintro e w2 ⟨v,rfl,⟨fid,caps,rfl,hent,hcl⟩,h2,hg2⟩
  have B2:=Lib.hid (B1.out.trans (Got.below hg2 S1.out.lt))
  have S2:=Lib.hid h2
  have HCl:=Lib.hid hcl
  unfold EntersF at hent
  clear h2 hg2 hcl
  go_wp2_with fail
  refine (NE.out _ S2.out).mono ?_
  rintro e w3 ⟨rfl,hb3⟩
  have l3:=S2.out.lt
  obtain ⟨a1,a2,a3,a4,a5,_⟩:=ansW_facts HD.out HG.out (B2.out.trans (hb3.mono (by omega)))
  exact close_panic (Nat.le_refl _) rfl a1 a2 (by omega) a4 (by decide) a5
theorem ans_val_ok (S:DSt) (L:List ByteArray) (s:ByteArray) (hs:L.getD 0 ⟨#[]⟩=s) (hL:0<L.length) (hf:wideF s=none) (hq0:(s.toList == [114,111,111,116])=false) (hq:((s.toList == [115,117,109,115])=true)∨((s.toList == [115,117,109,115])=false∧(s.toList == [109,101,97,110])=true)∨((s.toList == [115,117,109,115])=false∧(s.toList == [109,101,97,110])=false∧(s.toList == [115,112,114,101,97,100])=true)∨((s.toList == [115,117,109,115])=false∧(s.toList == [109,101,97,110])=false∧(s.toList == [115,112,114,101,97,100])=false∧(s.toList == [114,97,110,107])=true)∨((s.toList == [115,117,109,115])=false∧(s.toList == [109,101,97,110])=false∧(s.toList == [115,112,114,101,97,100])=false∧(s.toList == [114,97,110,107])=false∧(s.toList == [99,97,110,116,101,108,108,105])=true)∨((s.toList == [115,117,109,115])=false∧(s.toList == [109,101,97,110])=false∧(s.toList == [115,112,114,101,97,100])=false∧(s.toList == [114,97,110,107])=false∧(s.toList == [99,97,110,116,101,108,108,105])=false∧(s.toList == [102,97,100,101])=true)∨((s.toList == [115,117,109,115])=false∧(s.toList == [109,101,97,110])=false∧(s.toList == [115,112,114,101,97,100])=false∧(s.toList == [114,97,110,107])=false∧(s.toList == [99,97,110,116,101,108,108,105])=false∧(s.toList == [102,97,100,101])=false∧(s.toList == [108,101,118,101,108])=true)∨((s.toList == [115,117,109,115])=false∧(s.toList == [109,101,97,110])=false∧(s.toList == [115,112,114,101,97,100])=false∧(s.toList == [114,97,110,107])=false∧(s.toList == [99,97,110,116,101,108,108,105])=false∧(s.toList == [102,97,100,101])=false∧(s.toList == [108,101,118,101,108])=false∧(s.toList == [119,104,101,110])=true)) {o:Out} {k:Nat} (hR:ValR (some (o,k)) s L 1) (hk:k=L.length):AnsR S L o S:=by
 intro w d f A n c g hD hn hn1 hrow
 have hmf:=mkfun
 have qa:=alloc_cells
 have qf:=alloc_frozens
 obtain ⟨g0,off,rfl,hg0,hc0,_⟩:=hrow 0 (by omega)
 rw [hs,Nat.add_zero] at hc0
 have HW:=Lib.hid (fun w'=>wides_ok s w')
 have hw1:wideV s=.nilFunc:=by unfold wideV;rw [hf]
 have hw2:(wideF s).isSome=false:=by rw [hf];rfl
 rw [hw1,hw2] at HW
 have HST:=Lib.hid (ansW_st (c:=c) g hn (by omega) hn1 hrow)
 have n0:(0:Int)<n:=by omega
 have HD:=Lib.hid hD
 have HG:=Lib.hid g
 have HHD:=Lib.hid (And.intro hD g)
 have NV:=Lib.hid (fun (w':World) (h:WSt w' (w.heap.size+1) (some ⟨g0,off,none⟩) n c L 1) (g:GOK w')=>hR.2 w' _ _ _ _ g h)
 have HOk:=Lib.hid (hR.1 _ _ rfl)
 have NE:=Lib.hid (fun (w':World) (h:WSt w' (w.heap.size+1) (some ⟨g0,off,none⟩) n c L k)=>wend_eq h (by omega))
 clear hrow hD g hf hw1 hw2 hs hL hn hn1 hR hk
 go_enter_defers Tryz.func13,Tryz.ntmps13
 go_wp2_with fail
 refine (HW.out _).mono ?_
 rintro e w1 ⟨rfl,hb1⟩
 have hs1:=HST.out.below hb1
 have BB1:Below (w.heap.size+1) (ansW w (some ⟨g0,off,none⟩) n c) w1:=Below.mono (show Below (ansW w (some ⟨g0,off,none⟩) n c).heap.size (ansW w (some ⟨g0,off,none⟩) n c) w1 from hb1) (by rw [ansW_size];omega)
 have B1:=Lib.hid BB1
 have S1:=Lib.hid hs1
 clear hb1 hs1 BB1
 rcases hq with u0 | ⟨u0,u1⟩ | ⟨u0,u1,u2⟩ | ⟨u0,u1,u2,u3⟩ | ⟨u0,u1,u2,u3,u4⟩ | ⟨u0,u1,u2,u3,u4,u5⟩ | ⟨u0,u1,u2,u3,u4,u5,u6⟩ | ⟨u0,u1,u2,u3,u4,u5,u6,u7⟩
 all_goals
  go_wp2_with fail
  obtain ⟨_,_,_,g1,_,b1⟩:=ansW_facts HD.out HG.out B1.out
  refine (NV.out _ S1.out g1).mono ?_
  rintro e w2 ⟨v,rfl,⟨fid,caps,rfl,hent,hcl⟩,h2,hg2⟩
  have B2:=Lib.hid (B1.out.trans (Got.below hg2 S1.out.lt))
  have S2:=Lib.hid h2
  have HCl:=Lib.hid hcl
  unfold EntersF at hent
  clear h2 hg2 hcl
  go_wp2_with fail
  refine (NE.out _ S2.out).mono ?_
  rintro e w3 ⟨rfl,hb3⟩
  have l3:=S2.out.lt
  have B3:=Lib.hid (B2.out.trans (hb3.mono (by omega)))
  have HB3:=Lib.hid hb3
  have z3:=hb3.size
  clear hb3
  go_wp2_with fail
  obtain ⟨_,_,_,g3,_,b3⟩:=ansW_facts HD.out HG.out B3.out
  refine (HCl.out _ HB3.out g3).mono ?_
  rintro e w4 ⟨he,hb4⟩
  obtain ⟨y1,y2,y3,y4,y5,_⟩:=ansW_facts HD.out HG.out (B3.out.trans (hb4.mono (by omega)))
  cases o with
  | err e1=>
   obtain rfl:e=Fault e1:=he
   exact close_panic (Nat.le_refl _) rfl y1 y2 (by omega) y4 HOk.out y5
  | txt tx=>
   obtain rfl:e=.returned (.string tx):=he
   go_wp2_with fail
   exact close_ret rfl (World.cell?_setCell_same _ _ _ y1) (y5.set (Nat.le_refl _) _ _)
theorem ans_ask_none (S:DSt) (L:List ByteArray) (s:ByteArray) (hs:L.getD 0 ⟨#[]⟩=s) (hL:0<L.length) (hf:wideF s=none) (hq0:(s.toList == [114,111,111,116])=false) (q0:(s.toList == [115,117,109,115])=false) (q1:(s.toList == [109,101,97,110])=false) (q2:(s.toList == [115,112,114,101,97,100])=false) (q3:(s.toList == [114,97,110,107])=false) (q4:(s.toList == [99,97,110,116,101,108,108,105])=false) (q5:(s.toList == [102,97,100,101])=false) (q6:(s.toList == [108,101,118,101,108])=false) (q7:(s.toList == [119,104,101,110])=false) (hR:AskR none S s L 1):AnsR S L (.err 11) S:=by
 intro w d f A n c g hD hn hn1 hrow
 have hmf:=mkfun
 have qa:=alloc_cells
 have qf:=alloc_frozens
 obtain ⟨g0,off,rfl,hg0,hc0,_⟩:=hrow 0 (by omega)
 rw [hs,Nat.add_zero] at hc0
 have HW:=Lib.hid (fun w'=>wides_ok s w')
 have hw1:wideV s=.nilFunc:=by unfold wideV;rw [hf]
 have hw2:(wideF s).isSome=false:=by rw [hf];rfl
 rw [hw1,hw2] at HW
 have HST:=Lib.hid (ansW_st (c:=c) g hn (by omega) hn1 hrow)
 have n0:(0:Int)<n:=by omega
 have HD:=Lib.hid hD
 have HG:=Lib.hid g
 have HHD:=Lib.hid (And.intro hD g)
 have NV:=Lib.hid (fun (w':World) (h:WSt w' (w.heap.size+1) (some ⟨g0,off,none⟩) n c L 1) (g:GOK w') (hD:DRep w' d S f)=>hR.2 w' d f _ _ _ _ g hD h)
 clear hrow hD g hf hw1 hw2 hs hL hn hn1 hR
 go_enter_defers Tryz.func13,Tryz.ntmps13
 go_wp2_with fail
 refine (HW.out _).mono ?_
 rintro e w1 ⟨rfl,hb1⟩
 have hs1:=HST.out.below hb1
 have BB1:Below (w.heap.size+1) (ansW w (some ⟨g0,off,none⟩) n c) w1:=Below.mono (show Below (ansW w (some ⟨g0,off,none⟩) n c).heap.size (ansW w (some ⟨g0,off,none⟩) n c) w1 from hb1) (by rw [ansW_size];omega)
 have B1:=Lib.hid BB1
 have S1:=Lib.hid hs1
 clear hb1 hs1 BB1
 go_wp2_with fail
 obtain ⟨_,_,_,g1,_,b1⟩:=ansW_facts HD.out HG.out B1.out
 have d1:=HD.out.below b1
 refine (NV.out _ S1.out g1 d1).mono ?_
 rintro e w2 ⟨rfl,hg2⟩
 obtain ⟨a1,a2,a3,a4,a5,_⟩:=ansW_facts HD.out HG.out (B1.out.trans (Got.below hg2 S1.out.lt))
 exact close_panic (Nat.le_refl _) rfl a1 a2 (by omega) a4 (by decide) a5
theorem ans_ask_short (S:DSt) (L:List ByteArray) (s:ByteArray) (hs:L.getD 0 ⟨#[]⟩=s) (hL:0<L.length) (hf:wideF s=none) (hq0:(s.toList == [114,111,111,116])=false) (q0:(s.toList == [115,117,109,115])=false) (q1:(s.toList == [109,101,97,110])=false) (q2:(s.toList == [115,112,114,101,97,100])=false) (q3:(s.toList == [114,97,110,107])=false) (q4:(s.toList == [99,97,110,116,101,108,108,105])=false) (q5:(s.toList == [102,97,100,101])=false) (q6:(s.toList == [108,101,118,101,108])=false) (q7:(s.toList == [119,104,101,110])=false) {o:Out} {S':DSt} {k:Nat} (hR:AskR (some (o,S',k)) S s L 1) (hk:k≠L.length):AnsR S L (.err 11) S:=by
 intro w d f A n c g hD hn hn1 hrow
 have hmf:=mkfun
 have qa:=alloc_cells
 have qf:=alloc_frozens
 obtain ⟨g0,off,rfl,hg0,hc0,_⟩:=hrow 0 (by omega)
 rw [hs,Nat.add_zero] at hc0
 have HW:=Lib.hid (fun w'=>wides_ok s w')
 have hw1:wideV s=.nilFunc:=by unfold wideV;rw [hf]
 have hw2:(wideF s).isSome=false:=by rw [hf];rfl
 rw [hw1,hw2] at HW
 have HST:=Lib.hid (ansW_st (c:=c) g hn (by omega) hn1 hrow)
 have n0:(0:Int)<n:=by omega
 have HD:=Lib.hid hD
 have HG:=Lib.hid g
 have HHD:=Lib.hid (And.intro hD g)
 have NV:=Lib.hid (fun (w':World) (h:WSt w' (w.heap.size+1) (some ⟨g0,off,none⟩) n c L 1) (g:GOK w') (hD:DRep w' d S f)=>hR.2 w' d f _ _ _ _ g hD h)
 have NE:=Lib.hid (fun (w':World) (h:WSt w' (w.heap.size+1) (some ⟨g0,off,none⟩) n c L k)=>wend_no h (by have:=h.2.2.1;omega))
 clear hrow hD g hf hw1 hw2 hs hL hn hn1 hR hk
 go_enter_defers Tryz.func13,Tryz.ntmps13
 go_wp2_with fail
 refine (HW.out _).mono ?_
 rintro e w1 ⟨rfl,hb1⟩
 have hs1:=HST.out.below hb1
 have BB1:Below (w.heap.size+1) (ansW w (some ⟨g0,off,none⟩) n c) w1:=Below.mono (show Below (ansW w (some ⟨g0,off,none⟩) n c).heap.size (ansW w (some ⟨g0,off,none⟩) n c) w1 from hb1) (by rw [ansW_size];omega)
 have B1:=Lib.hid BB1
 have S1:=Lib.hid hs1
 clear hb1 hs1 BB1
 go_wp2_with fail
 obtain ⟨_,_,_,g1,_,b1⟩:=ansW_facts HD.out HG.out B1.out
 have d1:=HD.out.below b1
 refine (NV.out _ S1.out g1 d1).mono ?_
 rintro e w2 ⟨v,rfl,⟨fid,caps,rfl,hent,hcl⟩,h2,hg2⟩
 have B2:=Lib.hid (B1.out.trans (Got.below hg2 S1.out.lt))
 have S2:=Lib.hid h2
 have HCl:=Lib.hid hcl
 unfold EntersF at hent
 clear h2 hg2 hcl
 go_wp2_with fail
 refine (NE.out _ S2.out).mono ?_
 rintro e w3 ⟨rfl,hb3⟩
 have l3:=S2.out.lt
 obtain ⟨a1,a2,a3,a4,a5,_⟩:=ansW_facts HD.out HG.out (B2.out.trans (hb3.mono (by omega)))
 exact close_panic (Nat.le_refl _) rfl a1 a2 (by omega) a4 (by decide) a5
theorem ans_ask_ok (S:DSt) (L:List ByteArray) (s:ByteArray) (hs:L.getD 0 ⟨#[]⟩=s) (hL:0<L.length) (hf:wideF s=none) (hq0:(s.toList == [114,111,111,116])=false) (q0:(s.toList == [115,117,109,115])=false) (q1:(s.toList == [109,101,97,110])=false) (q2:(s.toList == [115,112,114,101,97,100])=false) (q3:(s.toList == [114,97,110,107])=false) (q4:(s.toList == [99,97,110,116,101,108,108,105])=false) (q5:(s.toList == [102,97,100,101])=false) (q6:(s.toList == [108,101,118,101,108])=false) (q7:(s.toList == [119,104,101,110])=false) {o:Out} {S':DSt} {k:Nat} (hR:AskR (some (o,S',k)) S s L 1) (hk:k=L.length):AnsR S L o S':=by
 intro w d f A n c g hD hn hn1 hrow
 have hmf:=mkfun
 have qa:=alloc_cells
 have qf:=alloc_frozens
 obtain ⟨g0,off,rfl,hg0,hc0,_⟩:=hrow 0 (by omega)
 rw [hs,Nat.add_zero] at hc0
 have HW:=Lib.hid (fun w'=>wides_ok s w')
 have hw1:wideV s=.nilFunc:=by unfold wideV;rw [hf]
 have hw2:(wideF s).isSome=false:=by rw [hf];rfl
 rw [hw1,hw2] at HW
 have HST:=Lib.hid (ansW_st (c:=c) g hn (by omega) hn1 hrow)
 have n0:(0:Int)<n:=by omega
 have HD:=Lib.hid hD
 have HG:=Lib.hid g
 have HHD:=Lib.hid (And.intro hD g)
 have NV:=Lib.hid (fun (w':World) (h:WSt w' (w.heap.size+1) (some ⟨g0,off,none⟩) n c L 1) (g:GOK w') (hD:DRep w' d S f)=>hR.2 w' d f _ _ _ _ g hD h)
 have HOk:=Lib.hid (hR.1 _ _ _ rfl)
 have NE:=Lib.hid (fun (w':World) (h:WSt w' (w.heap.size+1) (some ⟨g0,off,none⟩) n c L k)=>wend_eq h (by omega))
 clear hrow hD g hf hw1 hw2 hs hL hn hn1 hR hk
 go_enter_defers Tryz.func13,Tryz.ntmps13
 go_wp2_with fail
 refine (HW.out _).mono ?_
 rintro e w1 ⟨rfl,hb1⟩
 have hs1:=HST.out.below hb1
 have BB1:Below (w.heap.size+1) (ansW w (some ⟨g0,off,none⟩) n c) w1:=Below.mono (show Below (ansW w (some ⟨g0,off,none⟩) n c).heap.size (ansW w (some ⟨g0,off,none⟩) n c) w1 from hb1) (by rw [ansW_size];omega)
 have B1:=Lib.hid BB1
 have S1:=Lib.hid hs1
 clear hb1 hs1 BB1
 go_wp2_with fail
 obtain ⟨_,_,_,g1,_,b1⟩:=ansW_facts HD.out HG.out B1.out
 have d1:=HD.out.below b1
 refine (NV.out _ S1.out g1 d1).mono ?_
 rintro e w2 ⟨v,rfl,⟨fid,caps,rfl,hent,hcl⟩,h2,hg2⟩
 have B2:=Lib.hid (B1.out.trans (Got.below hg2 S1.out.lt))
 have S2:=Lib.hid h2
 have HCl:=Lib.hid hcl
 unfold EntersF at hent
 clear h2 hg2 hcl
 go_wp2_with fail
 refine (NE.out _ S2.out).mono ?_
 rintro e w3 ⟨rfl,hb3⟩
 have l3:=S2.out.lt
 have B3:=Lib.hid (B2.out.trans (hb3.mono (by omega)))
 have HB3:=Lib.hid hb3
 have z3:=hb3.size
 clear hb3
 go_wp2_with fail
 obtain ⟨_,_,_,g3,_,b3⟩:=ansW_facts HD.out HG.out B3.out
 have d3:=HD.out.below b3
 refine (HCl.out _ HB3.out g3 d3).mono ?_
 rintro e w4 hdn
 obtain ⟨y1,y2,y3,y4,y5⟩:=ans_left HD.out HG.out B3.out hdn
 have he:=hdn.1
 clear hdn d3
 cases o with
 | err e1=>
  obtain rfl:e=Fault e1:=he
  exact close_panic (Nat.le_refl _) rfl y1 y2 (by omega) y4 HOk.out.1 y5
 | txt tx=>
  obtain rfl:e=.returned (.string tx):=he
  go_wp2_with fail
  exact close_ret rfl (World.cell?_setCell_same _ _ _ y1) (y5.set (Nat.le_refl _) _ _)
end Go.Proofs.YtnaebigoknfndaaGreatDoor
namespace Go.Proofs.YtnaebigoknfndaaGreatDoor
open Go Go.RowKit
theorem lit_no {s:ByteArray} {l:List UInt8} (h:s≠⟨l.toArray⟩):(s.toList==l)=false:=by
 have:=(toListNe h).1
 rw [show (ByteArray.mk l.toArray).toList=l by rw [ByteArray.toList_eq]] at this
 exact this
theorem lit_yes (l:List UInt8):((ByteArray.mk l.toArray).toList==l)=true:=by
 rw [ByteArray.toList_eq];simp
theorem root_nat {a:Nat} (h:U128 (a:Int)):∃ r:Nat,IsRoot (a:Int) (r:Int)∧(r:Int)<18446744073709551616:=by
 obtain ⟨s,hs⟩:=isRoot_ex (a:Int) (by omega)
 obtain ⟨r,rfl⟩:∃ r:Nat,s=r:=⟨s.toNat,by have:=hs.1;omega⟩
 refine ⟨r,hs,sq_lt_of (by omega) ?_⟩
 have h1:=hs.2.1
 have h2:=h.2
 omega
theorem values_ex (s:ByteArray) (hw:s=ByteArray.mk #[115,117,109,115]∨s=ByteArray.mk #[109,101,97,110]∨s=ByteArray.mk #[115,112,114,101,97,100]∨s=ByteArray.mk #[114,97,110,107]∨s=ByteArray.mk #[99,97,110,116,101,108,108,105]∨s=ByteArray.mk #[102,97,100,101]∨s=ByteArray.mk #[108,101,118,101,108]∨s=ByteArray.mk #[119,104,101,110]) (L:List ByteArray) (k:Nat) (hz:∀ j,j<L.length→(L.getD j ⟨#[]⟩).size≤1048576):∃ R,ValR R s L k:=by
 cases hl:pList L k with
 | none=>exact ⟨_,values_nolist s hl⟩
 | some l=>
  have hk:k<L.length:=by unfold pList at hl;split at hl;assumption;cases hl
  have hz1:=hz k hk
  rcases hw with h | h | h | h | h | h | h | h
  ·exact values_sums s h hl hz1
  ·exact values_mean s h hl hz1
  ·exact values_spread s h hl hz1
  ·cases hx:pNum L (k+1) with
   | none=>exact ⟨_,values_rank_no1 s h hl hx⟩
   | some x=>
    cases hy:pNum L (k+2) with
    | none=>exact ⟨_,values_rank_no2 s h hl hx hy⟩
    | some y=>exact values_rank s h hl hz1 hx hy
  ·cases hx:pNum L (k+1) with
   | none=>exact ⟨_,values_cantelli_no1 s h hl hx⟩
   | some x=>exact values_cantelli s h hl hz1 hx
  ·cases hx:pNum L (k+1) with
   | none=>exact ⟨_,values_fade_no1 s h hl hx⟩
   | some x=>exact values_fade s h hl hz1 hx
  ·cases hx:pNum L (k+1) with
   | none=>exact ⟨_,values_level_no1 s h hl hx⟩
   | some x=>
    cases hy:pNum L (k+2) with
    | none=>exact ⟨_,values_level_no2 s h hl hx hy⟩
    | some y=>exact values_level s h hl hz1 hx hy
  ·cases hx:pNum L (k+1) with
   | none=>exact ⟨_,values_when_no1 s h hl hx⟩
   | some x=>
    cases hy:pNum L (k+2) with
    | none=>exact ⟨_,values_when_no2 s h hl hx hy⟩
    | some y=>exact values_when s h hl hz1 hx hy
theorem pNext_size {L:List ByteArray} {k:Nat} {v:ByteArray} (h:pNext L k=some v) (hz:∀ j,j<L.length→(L.getD j ⟨#[]⟩).size≤1048576):v.size≤1048576:=by
 unfold pNext at h
 split at h
 ·cases h;exact hz k (by assumption)
 ·cases h
theorem dasks_ex {S:DSt} (ok:DOK S) (s:ByteArray) (L:List ByteArray) (k:Nat) (hz:∀ j,j<L.length→(L.getD j ⟨#[]⟩).size≤1048576):∃ R,AskR R S s L k:=by
 by_cases h_node:s=ByteArray.mk #[110,111,100,101]
 ·cases hx0:pNext L k with
  | none=>exact ⟨_,asks_node_no0 s h_node hx0⟩
  | some v0=>
   cases hx1:pNum L (k+1) with
   | none=>exact ⟨_,asks_node_no1 s h_node hx0 hx1⟩
   | some v1=>
    cases hx2:pNum L (k+2) with
    | none=>exact ⟨_,asks_node_no2 s h_node hx0 hx1 hx2⟩
    | some v2=>
     cases hx3:pNum L (k+3) with
     | none=>exact ⟨_,asks_node_no3 s h_node hx0 hx1 hx2 hx3⟩
     | some v3=>
      exact asks_node ok s h_node hx0 hx1 hx2 hx3 (pNext_size hx0 hz)
 by_cases h_start:s=ByteArray.mk #[115,116,97,114,116]
 ·exact asks_start ok s h_start
 by_cases h_way:s=ByteArray.mk #[119,97,121]
 ·exact asks_way ok s h_way
 by_cases h_tick:s=ByteArray.mk #[116,105,99,107]
 ·cases hx0:pNum L k with
  | none=>exact ⟨_,asks_tick_no0 s h_tick hx0⟩
  | some v0=>
   exact asks_tick ok s h_tick hx0
 by_cases h_bring:s=ByteArray.mk #[98,114,105,110,103]
 ·cases hx0:pNum L k with
  | none=>exact ⟨_,asks_bring_no0 s h_bring hx0⟩
  | some v0=>
   cases hx1:pNum L (k+1) with
   | none=>exact ⟨_,asks_bring_no1 s h_bring hx0 hx1⟩
   | some v1=>
    exact asks_bring ok s h_bring hx0 hx1
 by_cases h_lose:s=ByteArray.mk #[108,111,115,101]
 ·cases hx0:pNum L k with
  | none=>exact ⟨_,asks_lose_no0 s h_lose hx0⟩
  | some v0=>
   exact asks_lose ok s h_lose hx0
 by_cases h_stop:s=ByteArray.mk #[115,116,111,112]
 ·cases hx0:pNum L k with
  | none=>exact ⟨_,asks_stop_no0 s h_stop hx0⟩
  | some v0=>
   exact asks_stop ok s h_stop hx0
 by_cases h_ask:s=ByteArray.mk #[97,115,107]
 ·cases hx0:pNum L k with
  | none=>exact ⟨_,asks_ask_no0 s h_ask hx0⟩
  | some v0=>
   cases hx1:pNext L (k+1) with
   | none=>exact ⟨_,asks_ask_no1 s h_ask hx0 hx1⟩
   | some v1=>
    exact asks_ask ok s h_ask hx0 hx1
 by_cases h_join:s=ByteArray.mk #[106,111,105,110]
 ·cases hx0:pNum L k with
  | none=>exact ⟨_,asks_join_no0 s h_join hx0⟩
  | some v0=>
   cases hx1:pNext L (k+1) with
   | none=>exact ⟨_,asks_join_no1 s h_join hx0 hx1⟩
   | some v1=>
    cases hx2:pNum L (k+2) with
    | none=>exact ⟨_,asks_join_no2 s h_join hx0 hx1 hx2⟩
    | some v2=>
     exact asks_join ok s h_join hx0 hx1 hx2
 exact ⟨_,asks_other s h_node h_start h_way h_tick h_bring h_lose h_stop h_ask h_join⟩
theorem answer_ex {S:DSt} (ok:DOK S) (L:List ByteArray) (hL:0<L.length) (hz:∀ j,j<L.length→(L.getD j ⟨#[]⟩).size≤1048576):∃ o S',OutOK o∧DOK S'∧AnsR S L o S':=by
 have e11:OutOK (.err 11):=⟨by decide,by decide⟩
 obtain ⟨s,hs⟩:∃ s,L.getD 0 ⟨#[]⟩=s:=⟨_,rfl⟩
 cases hf:wideF s with
 | some fw=>
  cases hx:pGreat L 1 with
  | none=>exact ⟨_,S,e11,ok,ans_wide1 S L s fw hs hL hf hx⟩
  | some a=>
   cases hy:pGreat L 2 with
   | none=>exact ⟨_,S,e11,ok,ans_wide2 S L s hs hL fw hf hx hy⟩
   | some b=>
    by_cases h3:L.length=3
    ·obtain ⟨o,ho,h⟩:=ans_wide S L s hs hL fw hf hx hy h3
     exact ⟨o,S,ho,ok,h⟩
    ·exact ⟨_,S,e11,ok,ans_wide3 S L s hs hL fw hf hx hy h3⟩
 | none=>
  by_cases hr:s=ByteArray.mk #[114,111,111,116]
  ·have hq0:(s.toList == [114,111,111,116])=true:=by rw [hr];exact lit_yes _
   cases hx:pGreat L 1 with
   | none=>exact ⟨_,S,e11,ok,ans_root1 S L s hs hL hf hq0 hx⟩
   | some a=>
    by_cases h3:L.length=2
    ·have ua:U128 (a:Int):=by unfold pGreat at hx;split at hx;exact greatW_bd hx;cases hx
     obtain ⟨r,h1,h2⟩:=root_nat ua
     exact ⟨.txt (grT [r]),S,⟨grT_okT [r],Nat.le_trans (grT_size [r] (fun y hy=>by rw [List.mem_singleton.1 hy];exact ⟨by omega,by omega⟩)) (by simp)⟩,ok,ans_root S L s hs hL hf hq0 hx h3 r h1 h2⟩
    ·exact ⟨_,S,e11,ok,ans_root2 S L s hs hL hf hq0 hx h3⟩
  ·have hq0:(s.toList == [114,111,111,116])=false:=lit_no hr
   by_cases hv:s=ByteArray.mk #[115,117,109,115]∨s=ByteArray.mk #[109,101,97,110]∨s=ByteArray.mk #[115,112,114,101,97,100]∨s=ByteArray.mk #[114,97,110,107]∨s=ByteArray.mk #[99,97,110,116,101,108,108,105]∨s=ByteArray.mk #[102,97,100,101]∨s=ByteArray.mk #[108,101,118,101,108]∨s=ByteArray.mk #[119,104,101,110]
   ·obtain ⟨R,hR⟩:=values_ex s hv L 1 hz
    have hq:((s.toList == [115,117,109,115])=true)∨((s.toList == [115,117,109,115])=false∧(s.toList == [109,101,97,110])=true)∨((s.toList == [115,117,109,115])=false∧(s.toList == [109,101,97,110])=false∧(s.toList == [115,112,114,101,97,100])=true)∨((s.toList == [115,117,109,115])=false∧(s.toList == [109,101,97,110])=false∧(s.toList == [115,112,114,101,97,100])=false∧(s.toList == [114,97,110,107])=true)∨((s.toList == [115,117,109,115])=false∧(s.toList == [109,101,97,110])=false∧(s.toList == [115,112,114,101,97,100])=false∧(s.toList == [114,97,110,107])=false∧(s.toList == [99,97,110,116,101,108,108,105])=true)∨((s.toList == [115,117,109,115])=false∧(s.toList == [109,101,97,110])=false∧(s.toList == [115,112,114,101,97,100])=false∧(s.toList == [114,97,110,107])=false∧(s.toList == [99,97,110,116,101,108,108,105])=false∧(s.toList == [102,97,100,101])=true)∨((s.toList == [115,117,109,115])=false∧(s.toList == [109,101,97,110])=false∧(s.toList == [115,112,114,101,97,100])=false∧(s.toList == [114,97,110,107])=false∧(s.toList == [99,97,110,116,101,108,108,105])=false∧(s.toList == [102,97,100,101])=false∧(s.toList == [108,101,118,101,108])=true)∨((s.toList == [115,117,109,115])=false∧(s.toList == [109,101,97,110])=false∧(s.toList == [115,112,114,101,97,100])=false∧(s.toList == [114,97,110,107])=false∧(s.toList == [99,97,110,116,101,108,108,105])=false∧(s.toList == [102,97,100,101])=false∧(s.toList == [108,101,118,101,108])=false∧(s.toList == [119,104,101,110])=true):=by
     rcases hv with h | h | h | h | h | h | h | h <;> subst h <;> simp only [ByteArray.toList_eq] <;> decide
    cases R with
    | none=>exact ⟨_,S,e11,ok,ans_val_none S L s hs hL hf hq0 hq hR⟩
    | some R=>
     obtain ⟨o,k⟩:=R
     by_cases hk:k=L.length
     ·exact ⟨o,S,hR.1 _ _ rfl,ok,ans_val_ok S L s hs hL hf hq0 hq hR hk⟩
     ·exact ⟨_,S,e11,ok,ans_val_short S L s hs hL hf hq0 hq hR hk⟩
   ·have hn:s≠ByteArray.mk #[115,117,109,115]∧s≠ByteArray.mk #[109,101,97,110]∧s≠ByteArray.mk #[115,112,114,101,97,100]∧s≠ByteArray.mk #[114,97,110,107]∧s≠ByteArray.mk #[99,97,110,116,101,108,108,105]∧s≠ByteArray.mk #[102,97,100,101]∧s≠ByteArray.mk #[108,101,118,101,108]∧s≠ByteArray.mk #[119,104,101,110]:=by simpa [not_or] using hv
    obtain ⟨n0,n1,n2,n3,n4,n5,n6,n7⟩:=hn
    obtain ⟨R,hR⟩:=dasks_ex ok s L 1 hz
    cases R with
    | none=>exact ⟨_,S,e11,ok,ans_ask_none S L s hs hL hf hq0 (lit_no n0) (lit_no n1) (lit_no n2) (lit_no n3) (lit_no n4) (lit_no n5) (lit_no n6) (lit_no n7) hR⟩
    | some R=>
     obtain ⟨o,S',k⟩:=R
     by_cases hk:k=L.length
     ·exact ⟨o,S',(hR.1 _ _ _ rfl).1,(hR.1 _ _ _ rfl).2,ans_ask_ok S L s hs hL hf hq0 (lit_no n0) (lit_no n1) (lit_no n2) (lit_no n3) (lit_no n4) (lit_no n5) (lit_no n6) (lit_no n7) hR hk⟩
     ·exact ⟨_,S,e11,ok,ans_ask_short S L s hs hL hf hq0 (lit_no n0) (lit_no n1) (lit_no n2) (lit_no n3) (lit_no n4) (lit_no n5) (lit_no n6) (lit_no n7) hR hk⟩
end Go.Proofs.YtnaebigoknfndaaGreatDoor
namespace Go.Proofs.YtnaebigoknfndaaGreatDoor
open Go Go.RowKit
abbrev Bs:=List UInt8
def ar (l:Bs):ByteArray:=⟨l.toArray⟩
theorem bl_ar (l:Bs):(ar l).data.toList=l:=rfl
theorem ar_inj {a b:Bs} (h:ar a=ar b):a=b:=by have:=congrArg (fun s:ByteArray=>s.data.toList) h;simpa [ar] using this
def cutL (c:UInt8) (e:Bs):Bs→List Bs
 | []=>[[]]
 | b :: l=>if b=c then e :: cutL c e l else match cutL c e l with
   | []=>[[b]]
   | p :: ps=>(b :: p) :: ps
theorem cutL_ne (c:UInt8) (e:Bs):∀ l,cutL c e l ≠ []
 | []=>by simp [cutL]
 | b :: l=>by
   unfold cutL
   split
   ·simp
   ·split <;> simp
theorem cutL_none {c:UInt8} (e:Bs):∀ {l:Bs},c∉l→cutL c e l = [l]
 | [],_=>rfl
 | b :: l,h=>by
   have h1:b≠c:=fun x=>h (by rw [x];exact List.mem_cons_self)
   have h2:=cutL_none e (l:=l) (fun x=>h (List.mem_cons_of_mem _ x))
   unfold cutL
   rw [if_neg h1,h2]
theorem cutL_hit {c:UInt8} (e:Bs):∀ {a:Bs} (r:Bs),c∉a→cutL c e (a++c :: r)=(a++e) :: cutL c e r
 | [],r,_=>by simp [cutL]
 | b :: a,r,h=>by
   have h1:b≠c:=fun x=>h (by rw [x];exact List.mem_cons_self)
   have h2:=cutL_hit e (a:=a) r (fun x=>h (List.mem_cons_of_mem _ x))
   rw [List.cons_append,cutL,if_neg h1,h2]
   rfl
theorem first_c (c:UInt8) (l:Bs):c∉l∨∃ a r,l=a++c :: r∧c∉a:=by
 by_cases h:c∈l
 ·obtain ⟨a,r,h1,h2⟩:=List.eq_append_cons_of_mem h
  exact .inr ⟨a,r,h1,h2⟩
 ·exact .inl h
theorem cutL_snoc (c:UInt8) (e:Bs) (b:UInt8):∀ l:Bs,∃ Q w,cutL c e l=Q ++ [w]∧cutL c e (l ++ [b])=if b=c then Q ++ [w++e,[]] else Q ++ [w ++ [b]]
 | []=>by
   refine ⟨[],[],rfl,?_⟩
   by_cases h:b=c <;> simp [cutL,h]
 | x :: l=>by
   obtain ⟨Q,w,h1,h2⟩:=cutL_snoc c e b l
   by_cases hx:x=c
   ·refine ⟨e :: Q,w,by rw [cutL,if_pos hx,h1];rfl,?_⟩
    rw [List.cons_append,cutL,if_pos hx,h2]
    split <;> rfl
   ·cases Q with
    | nil=>
     refine ⟨[],x :: w,by rw [cutL,if_neg hx,h1];rfl,?_⟩
     rw [List.cons_append,cutL,if_neg hx,h2]
     by_cases hb:b=c
     ·rw [if_pos hb,if_pos hb];rfl
     ·rw [if_neg hb,if_neg hb];rfl
    | cons q Q=>
     refine ⟨(x :: q) :: Q,w,by rw [cutL,if_neg hx,h1];rfl,?_⟩
     rw [List.cons_append,cutL,if_neg hx,h2]
     by_cases hb:b=c
     ·rw [if_pos hb,if_pos hb];rfl
     ·rw [if_neg hb,if_neg hb];rfl
theorem index_head (c:UInt8) (l:Bs):Lib.index (c :: l) [c]=((0:Nat):Int):=by rw [Lib.index];simp [List.isPrefixOf]
theorem index_next {b c:UInt8} (h:b≠c) (l:Bs):Lib.index (b :: l) [c]=if Lib.index l [c] == -1 then -1 else Lib.index l [c]+1:=by
 have hp:([c]:Bs).isPrefixOf (b :: l)=false:=by simp [List.isPrefixOf,Ne.symm h]
 rw [Lib.index,hp];simp
theorem splitK_cut (c:UInt8) (e:Bs) (sv:Nat) (he:e = [c].take sv) (h1:sv≤1):∀ l:Bs,Lib.splitK [c] sv (Lib.count l [c]) l=cutL c e l
 | []=>by
   have h:Lib.count [] [c]=0:=by rw [Lib.count_one];rfl
   rw [h];rfl
 | b :: l=>by
   have ih:=splitK_cut c e sv he h1 l
   by_cases hb:b=c
   ·subst hb
    rw [Lib.count_cons_eq,Nat.add_comm,Lib.splitK,index_head,cutL,if_pos rfl]
    rw [if_neg (by decide),he]
    rw [he] at ih
    rw [← ih]
    have e1:(((0:Nat):Int).toNat+sv)=sv:=by simp
    have e2:(((0:Nat):Int).toNat + [b].length)=1:=by simp
    rw [e1,e2]
    have e3:(b :: l).take sv = [b].take sv:=by
     rcases (by omega:sv=0∨sv=1) with rfl | rfl <;> rfl
    rw [e3]
    rfl
   ·rw [Lib.count_cons_ne b c l hb,cutL,if_neg hb,← ih]
    cases hk:Lib.count l [c] with
    | zero=>rfl
    | succ k=>
     have hm:Lib.index l [c] ≠ -1:=fun e=>by rw [Lib.count_miss e] at hk;cases hk
     have hge:=Lib.index_ge l [c]
     obtain ⟨i,hi⟩:∃ i:Nat,Lib.index l [c]=i:=⟨(Lib.index l [c]).toNat,by omega⟩
     rw [Lib.splitK,Lib.splitK,index_next hb,hi]
     have g1:¬ (((i:Nat):Int) == -1)=true:=by first | (simp;done) | (simp;omega)
     have g2:¬ ((((i:Nat):Int)+1) == -1)=true:=by first | (simp;done) | (simp;omega)
     rw [if_neg g1,if_neg g1,if_neg g2]
     have e1:((((i:Nat):Int)+1).toNat+sv)=i+sv+1:=by omega
     have e2:((((i:Nat):Int)+1).toNat + [c].length)=i+1+1:=by simp
     have e3:((((i:Nat):Int)).toNat+sv)=i+sv:=by omega
     have e4:((((i:Nat):Int)).toNat + [c].length)=i+1:=by simp
     rw [e1,e2,e3,e4]
     rfl
theorem splitB_cut (c:UInt8) (e:Bs) (sv:Nat) (he:e = [c].take sv) (h1:sv≤1) (s:ByteArray):Lib.splitB (sepB c) sv (Lib.countB s (sepB c)) s=(cutL c e s.data.toList).map ar:=by
 have h:(Lib.splitB (sepB c) sv (Lib.countB s (sepB c)) s).map (·.data.toList)=cutL c e s.data.toList:=(Lib.splitB_data (sepB c) sv (Lib.countB s (sepB c)) s).trans (splitK_cut c e sv he h1 s.data.toList)
 rw [← h,List.map_map]
 conv=>lhs;rw [← List.map_id (Lib.splitB (sepB c) sv (Lib.countB s (sepB c)) s)]
 rfl
theorem partsB_cut (c:UInt8) (s:ByteArray):partsB c s=(cutL c [] s.data.toList).map ar:=splitB_cut c [] 0 rfl (by omega) s
def dropE:List Bs→List Bs
 | []=>[]
 | [p]=>if p = [] then [] else [p]
 | p :: q :: l=>p :: dropE (q :: l)
def linesL (l:Bs):List Bs:=dropE (cutL 10 [] l)
theorem dropE_snoc (Q:List Bs) (w:Bs):dropE (Q ++ [w])=if w = [] then Q else Q ++ [w]:=by
 induction Q with
 | nil=>simp [dropE]
 | cons q Q ih=>
  cases Q with
  | nil=>simp [dropE];split <;> simp_all
  | cons q2 Q=>
   simp only [List.cons_append] at ih ⊢
   rw [dropE,ih]
   split <;> rfl
theorem dropE_cons {l:List Bs} (a:Bs) (h:l ≠ []):dropE (a :: l)=a :: dropE l:=by
 cases l with
 | nil=>exact absurd rfl h
 | cons x l=>rfl
theorem linesL_nil:linesL [] = []:=rfl
theorem linesL_none {l:Bs} (h:(10:UInt8)∉l) (h0:l ≠ []):linesL l = [l]:=by
 unfold linesL
 rw [cutL_none [] h]
 unfold dropE
 rw [if_neg h0]
theorem linesL_hit {a:Bs} (r:Bs) (h:(10:UInt8)∉a):linesL (a++10 :: r)=a :: linesL r:=by
 unfold linesL
 rw [cutL_hit [] r h,List.append_nil,dropE_cons _ (cutL_ne _ _ _)]
def wordsL (l:Bs):List Bs:=(cutL 32 [] l).filter (fun x=>x ≠ [])
def skipL (l:Bs):Prop:=wordsL l = []∨(wordsL l).head? = some [35]
instance (l:Bs):Decidable (skipL l):=by unfold skipL;infer_instance
theorem cutL_flat (c:UInt8):∀ l:Bs,(cutL c [c] l).flatten=l
 | []=>rfl
 | b :: l=>by
   have ih:=cutL_flat c l
   unfold cutL
   split
   ·rename_i h;subst h;simp [ih]
   ·split
    ·rename_i h;exact absurd h (cutL_ne _ _ _)
    ·rename_i p ps h
     rw [h] at ih
     simp at ih ⊢
     exact ih
theorem lines_begin:∀ (n:Nat) (l:Bs) (k:Nat),l.length≤n→∃ m,linesL ((cutL 10 [10] l).take k).flatten=(linesL l).take m:=by
 intro n
 induction n with
 | zero=>
  intro l k hl
  have:l = []:=List.eq_nil_of_length_eq_zero (by omega)
  subst this
  refine ⟨0,?_⟩
  cases k <;> simp [cutL,linesL,dropE]
 | succ n ih=>
  intro l k hl
  rcases first_c 10 l with h | ⟨a,r,rfl,h⟩
  ·rw [cutL_none [10] h]
   cases k with
   | zero=>exact ⟨0,by simp [linesL_nil]⟩
   | succ k=>exact ⟨(linesL l).length,by simp⟩
  ·rw [cutL_hit [10] r h]
   cases k with
   | zero=>exact ⟨0,by simp [linesL_nil]⟩
   | succ k=>
    simp at hl
    obtain ⟨m,hm⟩:=ih r k (by omega)
    refine ⟨m+1,?_⟩
    rw [List.take_succ_cons,List.flatten_cons,linesL_hit r h,List.take_succ_cons,← hm]
    rw [List.append_assoc]
    exact linesL_hit _ h
end Go.Proofs.YtnaebigoknfndaaGreatDoor
namespace Go.Proofs.YtnaebigoknfndaaGreatDoor
open Go Go.RowKit
def S0:DSt:={ n:=0,C:=fun _=>⟨⟨#[]⟩,0,0,0⟩,town:=none }
theorem S0_ok:DOK S0:=⟨Nat.zero_le _,fun j hj=>absurd hj (Nat.not_lt_zero _),fun i j hi=>absurd hi (Nat.not_lt_zero _),fun T hT=>by cases hT⟩
structure Chain (L:List Bs) (n:Nat) (T:Nat→List ByteArray) (St:Nat→DSt):Prop where
 t0:T 0 = []
 s0:St 0=S0
 ok:∀ k,k≤n→DOK (St k)
 step:∀ k,k<n→(skipL (L.getD k [])∧T (k+1)=T k∧St (k+1)=St k)∨(¬ skipL (L.getD k [])∧∃ o,OutOK o∧AnsR (St k) ((wordsL (L.getD k [])).map ar) o (St (k+1))∧T (k+1)=T k ++ [o.text])
theorem cutL_mem (c:UInt8):∀ (l x:Bs),x∈cutL c [] l→x.length≤l.length
 | [],x,h=>by simp [cutL] at h;subst h;exact Nat.le_refl _
 | b :: l,x,h=>by
   unfold cutL at h
   split at h
   ·rcases List.mem_cons.1 h with rfl | h
    ·exact Nat.zero_le _
    ·have:=cutL_mem c l x h;simp;omega
   ·split at h
    ·rename_i h1;exact absurd h1 (cutL_ne _ _ _)
    ·rename_i p ps h1
     rcases List.mem_cons.1 h with rfl | h
     ·have:=cutL_mem c l p (by rw [h1];exact List.mem_cons_self)
      simp;omega
     ·have:=cutL_mem c l x (by rw [h1];exact List.mem_cons_of_mem _ h)
      simp;omega
theorem wordsL_size {l x:Bs} (h:x∈wordsL l):x.length≤l.length:=cutL_mem 32 l x (List.mem_filter.1 h).1
theorem ar_size (l:Bs):(ar l).size=l.length:=rfl
theorem words_size (l:Bs) (hl:l.length≤1048576):∀ j,j<((wordsL l).map ar).length→(((wordsL l).map ar).getD j ⟨#[]⟩).size≤1048576:=fun j hj=>by
 rw [List.getD_eq_getElem?_getD,List.getElem?_eq_getElem hj]
 show (((wordsL l).map ar)[j]).size≤_
 rw [List.getElem_map,ar_size]
 exact Nat.le_trans (wordsL_size (List.getElem_mem _)) hl
theorem words_pos {l:Bs} (h:¬ skipL l):0<((wordsL l).map ar).length:=by
 rw [List.length_map]
 cases hw:wordsL l with
 | nil=>exact absurd (.inl hw) h
 | cons _ _=>exact Nat.zero_lt_succ _
theorem chain_ex (L:List Bs) (hz:∀ x,x∈L→x.length≤1048576):∀ n,∃ T St,Chain L n T St:=by
 intro n
 induction n with
 | zero=>exact ⟨fun _=>[],fun _=>S0,rfl,rfl,fun _ _=>S0_ok,fun k hk=>absurd hk (Nat.not_lt_zero _)⟩
 | succ n ih=>
  obtain ⟨T,St,h⟩:=ih
  have hx:(L.getD n []).length≤1048576:=by
   rw [List.getD_eq_getElem?_getD]
   cases hg:L[n]? with
   | none=>exact Nat.zero_le _
   | some x=>exact hz x (List.mem_of_getElem? hg)
  have step:∃ t S',DOK S'∧((skipL (L.getD n [])∧t=T n∧S'=St n)∨(¬ skipL (L.getD n [])∧∃ o,OutOK o∧AnsR (St n) ((wordsL (L.getD n [])).map ar) o S'∧t=T n ++ [o.text])):=by
   by_cases hs:skipL (L.getD n [])
   ·exact ⟨T n,St n,h.ok n (Nat.le_refl _),.inl ⟨hs,rfl,rfl⟩⟩
   ·obtain ⟨o,S',h1,h2,h3⟩:=answer_ex (h.ok n (Nat.le_refl _)) _ (words_pos hs) (words_size _ hx)
    exact ⟨_,S',h2,.inr ⟨hs,o,h1,h3,rfl⟩⟩
  obtain ⟨t,S',hok,hst⟩:=step
  refine ⟨fun k=>if k≤n then T k else t,fun k=>if k≤n then St k else S',?_,?_,?_,?_⟩
  ·simp [h.t0]
  ·simp [h.s0]
  ·intro k hk
   show DOK (if k≤n then St k else S')
   split
   ·exact h.ok k (by omega)
   ·exact hok
  ·intro k hk
   show (skipL _∧(if k+1≤n then T (k+1) else t)=(if k≤n then T k else t)∧(if k+1≤n then St (k+1) else S')=(if k≤n then St k else S'))∨(¬ skipL _∧∃ o,OutOK o∧AnsR (if k≤n then St k else S') _ o (if k+1≤n then St (k+1) else S')∧(if k+1≤n then T (k+1) else t)=(if k≤n then T k else t) ++ [o.text])
   rw [if_pos (show k≤n by omega),if_pos (show k≤n by omega)]
   by_cases hkn:k<n
   ·rw [if_pos (show k+1≤n by omega),if_pos (show k+1≤n by omega)]
    exact h.step k hkn
   ·obtain rfl:k=n:=by omega
    rw [if_neg (show ¬ k+1≤k by omega),if_neg (show ¬ k+1≤k by omega)]
    exact hst
variable {L:List Bs} {n:Nat} {T:Nat→List ByteArray} {St:Nat→DSt}
theorem Chain.take (h:Chain L n T St) {m:Nat} (hm:m≤n):Chain (L.take m) m T St:=by
 refine ⟨h.t0,h.s0,fun k hk=>h.ok k (by omega),fun k hk=>?_⟩
 have e:(L.take m).getD k []=L.getD k []:=by
  rw [List.getD_eq_getElem?_getD,List.getD_eq_getElem?_getD,List.getElem?_take_of_lt hk]
 rw [e]
 exact h.step k (by omega)
theorem Chain.pre (h:Chain L n T St):∀ d k,k+d≤n→∃ R,T (k+d)=T k++R
 | 0,k,_=>⟨[],by simp⟩
 | d+1,k,hk=>by
   obtain ⟨R,hR⟩:=h.pre d k (by omega)
   rcases h.step (k+d) (by omega) with ⟨_,h2,_⟩ | ⟨_,o,_,_,h2⟩
   ·exact ⟨R,h2.trans hR⟩
   ·exact ⟨R ++ [o.text],by rw [show k+(d+1)=k+d+1 from rfl,h2,hR,List.append_assoc]⟩
theorem Chain.each (h:Chain L n T St):∀ k,k≤n→∀ t,t∈T k→Line t∧t.size≤1000000
 | 0,_,t,ht=>by rw [h.t0] at ht;cases ht
 | k+1,hk,t,ht=>by
   rcases h.step k (by omega) with ⟨_,h2,_⟩ | ⟨_,o,h1,_,h2⟩
   ·rw [h2] at ht;exact h.each k (by omega) t ht
   ·rw [h2] at ht
    rcases List.mem_append.1 ht with ht | ht
    ·exact h.each k (by omega) t ht
    ·rw [List.mem_singleton.1 ht];exact ⟨Out.line h1,Out.small h1⟩
def keptL (L:List Bs):List Bs:=L.filter (fun l=>¬ skipL l)
theorem Chain.len (h:Chain L n T St) (hn:n≤L.length):∀ k,k≤n→(T k).length=(keptL (L.take k)).length
 | 0,_=>by rw [h.t0];rfl
 | k+1,hk=>by
   have ih:=h.len hn k (by omega)
   have e:L.take (k+1)=L.take k ++ [L.getD k []]:=by
    rw [List.take_add_one,List.getD_eq_getElem?_getD,List.getElem?_eq_getElem (by omega)]
    rfl
   rw [e]
   unfold keptL at ih ⊢
   rw [List.filter_append,List.length_append,← ih]
   rcases h.step k (by omega) with ⟨h1,h2,_⟩ | ⟨h1,o,_,_,h2⟩
   ·rw [h2,List.filter_cons_of_neg (by simpa only [decide_not,Bool.not_eq_true',decide_eq_false_iff_not,Classical.not_not] using h1)];rfl
   ·rw [h2,List.filter_cons_of_pos (by simpa only [decide_not,Bool.not_eq_true',decide_eq_false_iff_not] using h1),List.length_append];rfl
theorem Chain.le (h:Chain L n T St):∀ k,k≤n→(T k).length≤k
 | 0,_=>by rw [h.t0];exact Nat.le_refl _
 | k+1,hk=>by
   have ih:=h.le k (by omega)
   rcases h.step k (by omega) with ⟨_,h2,_⟩ | ⟨_,o,_,_,h2⟩
   ·rw [h2];omega
   ·rw [h2,List.length_append];simp;omega
def runT (T:List ByteArray):Bs:=(T.map (fun t=>t.data.toList ++ [10])).flatten
theorem runT_app (A B:List ByteArray):runT (A++B)=runT A++runT B:=by simp [runT]
theorem runT_one (t:ByteArray):runT [t]=t.data.toList ++ [10]:=by simp [runT]
theorem runT_len:∀ T:List ByteArray,(∀ t,t∈T→t.size≤1000000)→(runT T).length≤1000001 * T.length
 | [],_=>by simp [runT]
 | t :: T,h=>by
   have h1:=h t List.mem_cons_self
   have h2:=runT_len T (fun x hx=>h x (List.mem_cons_of_mem _ hx))
   have e:runT (t :: T)=(t.data.toList ++ [10])++runT T:=by simp [runT]
   have h3:t.data.toList.length=t.size:=by rw [Array.length_toList];rfl
   rw [e,List.length_append,List.length_append,h3]
   simp
   omega
theorem runT_cut:∀ T:List ByteArray,(∀ t,t∈T→NoNL t)→cutL 10 [10] (runT T)=T.map (fun t=>t.data.toList ++ [10]) ++ [[]]
 | [],_=>rfl
 | t :: T,h=>by
   have e:runT (t :: T)=t.data.toList++10 :: runT T:=by simp [runT]
   rw [e,cutL_hit [10] _ (h t List.mem_cons_self),runT_cut T (fun x hx=>h x (List.mem_cons_of_mem _ hx))]
   rfl
theorem linesL_mem {l x:Bs} (h:x∈linesL l):x.length≤l.length:=by
 refine cutL_mem 10 l x ?_
 have key:∀ (P:List Bs),x∈dropE P→x∈P:=by
  intro P
  induction P with
  | nil=>intro h;exact h
  | cons p P ih=>
   intro h
   by_cases hP:P = []
   ·subst hP
    unfold dropE at h
    split at h
    ·cases h
    ·exact h
   ·rw [dropE_cons p hP] at h
    rcases List.mem_cons.1 h with rfl | h
    ·exact List.mem_cons_self
    ·exact List.mem_cons_of_mem _ (ih h)
 exact key _ h
end Go.Proofs.YtnaebigoknfndaaGreatDoor
